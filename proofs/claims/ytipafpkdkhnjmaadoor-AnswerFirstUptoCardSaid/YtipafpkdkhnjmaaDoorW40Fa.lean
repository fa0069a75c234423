/-
  What the Go functions compute, as Lean functions, and that a call returns just that. Printed by a program.
-/
import Derived.Test.YtipafpkdkhnjmaaDoorRows
import Derived.Test.YtipafpkdkhnjmaaDoorA
import Derived.Test.YtipafpkdkhnjmaaDoorIA
import Derived.Test.YtipafpkdkhnjmaaDoorM
set_option linter.unusedVariables false
set_option maxRecDepth 20000
set_option maxHeartbeats 4000000
namespace Go.Proofs.YtipafpkdkhnjmaaDoor
open Go.V Go.RowKit

def tyAnswer : Ty TAnswer where
  z := 4
  enc := fun x g => [.int .i64 x.Err, .int .i64 x.Num, .slice (g 0).a x.Texts.length (g 0).c, .slice (g 1).a x.Numbers.length (g 1).c]
  inn := fun M w x g => SlG tS M w x.Texts (g 0) ∧ SlG (tI .i64) M w x.Numbers (g 1) ∧ True
  len := fun _ _ => rfl
  one := fun _ _ => rfl
  kp := fun h k hX => ⟨h.1.kp k hX, h.2.1.kp k hX, trivial⟩
  anti := fun h hM => ⟨h.1.anti hM, h.2.1.anti hM, trivial⟩
  fresh := fun h => ⟨h.1.fresh, h.2.1.fresh, trivial⟩
theorem tyAnswer_i0 {M : Av} {w : World} {x : TAnswer} {g : Nat → Gh} (h : tyAnswer.inn M w x g) : SlG tS M w x.Texts (g 0) := (show SlG tS M w x.Texts (g 0) ∧ SlG (tI .i64) M w x.Numbers (g 1) ∧ True from h).1
theorem tyAnswer_i1 {M : Av} {w : World} {x : TAnswer} {g : Nat → Gh} (h : tyAnswer.inn M w x g) : SlG (tI .i64) M w x.Numbers (g 1) := (show SlG tS M w x.Texts (g 0) ∧ SlG (tI .i64) M w x.Numbers (g 1) ∧ True from h).2.1
theorem tyAnswer_mk {M : Av} {w : World} {x : TAnswer} {g : Nat → Gh} (h0 : SlG tS M w x.Texts (g 0)) (h1 : SlG (tI .i64) M w x.Numbers (g 1)) : tyAnswer.inn M w x g := show SlG tS M w x.Texts (g 0) ∧ SlG (tI .i64) M w x.Numbers (g 1) ∧ True from ⟨h0, h1, trivial⟩
theorem answer_Check_w {g_a__0 : Gh} {g_a__1 : Gh} (M : Av) (m : Nat) (a_ : TAnswer) (r : Int) (hm : answer_Check m a_ = some r) (w : World) (hS : S0 M [Ent.im tS a_.Texts g_a__0, Ent.im (tI .i64) a_.Numbers g_a__1] w) : Calls Tryd.prog 13 ⟨[.agg ⟨[.int .i64 a_.Err, .int .i64 a_.Num, .slice g_a__0.a a_.Texts.length g_a__0.c, .slice g_a__1.a a_.Numbers.length g_a__1.c]⟩]⟩ w (fun e w' => ∃ v, e = .returned v ∧ v = .int .i64 r ∧ SH M (fpl [Ent.im tS a_.Texts g_a__0, Ent.im (tI .i64) a_.Numbers g_a__1]) w [] w') := by
 rw [answer_Check] at hm
 have hS0 : SH M (fpl [Ent.im tS a_.Texts g_a__0, Ent.im (tI .i64) a_.Numbers g_a__1]) w [Ent.im tS a_.Texts g_a__0, Ent.im (tI .i64) a_.Numbers g_a__1] w := hS
 generalize hX : fpl [Ent.im tS a_.Texts g_a__0, Ent.im (tI .i64) a_.Numbers g_a__1] = X at hS0 ⊢
 clear hS hX
 have hS := hS0
 clear hS0
 refine calls_entryP Tryd.func13 rfl Tryd.ntmps13 rfl fun _ H => ?_
 refine w_seq ?_
 refine wl_start ?_
 have hd := hS.hand [] [0, 1] rfl rfl
 refine m_stp [1] [] H rfl rfl rfl rfl (o_box [.int .i64 a_.Err, .int .i64 a_.Num, .slice g_a__0.a a_.Texts.length g_a__0.c, .slice g_a__1.a a_.Numbers.length g_a__1.c] H hd rfl rfl) (fun _ => rfl) fun _ wd2 v H3 hq => ?_
 clear H hd
 obtain ⟨b1, rfl, hq⟩ := hq
 replace hS : SH M X w [Ent.blk b1 [.int .i64 a_.Err, .int .i64 a_.Num, .slice g_a__0.a a_.Texts.length g_a__0.c, .slice g_a__1.a a_.Numbers.length g_a__1.c], Ent.im tS a_.Texts g_a__0, Ent.im (tI .i64) a_.Numbers g_a__1] _ := hS.join [] [0, 1] rfl rfl hq
 clear hq
 refine wl_batch 1 2 [] [1] [(1, [], .pointer (some ⟨b1, 0, none⟩))] [] H3 (by decide) (by kernel_rfl) trivial fun _ wd4 H5 hb => ?_
 clear H3
 replace hS := hS.below hb
 clear hb
 refine wl_end rfl ?_
 refine s_reg [] [1, 3] [(1, [], .pointer (some ⟨b1, 0, none⟩)), (3, [], .int .i64 0)] [] H5 (by kernel_rfl) trivial fun _ wd6 H7 hb => ?_
 clear H5
 replace hS := hS.below hb
 clear hb
 obtain ⟨z8, hz, hm⟩ := bindE hm
 refine w_cut (fun a' w' => Fr 42 [(1, [], .pointer (some ⟨b1, 0, none⟩)), (3, [], .int .i64 z8)] a' ∧ SH M X w [Ent.blk b1 [.int .i64 a_.Err, .int .i64 a_.Num, .slice g_a__0.a a_.Texts.length g_a__0.c, .slice g_a__1.a a_.Numbers.length g_a__1.c], Ent.im tS a_.Texts g_a__0, Ent.im (tI .i64) a_.Numbers g_a__1] w') ?_ ?_
 ·replace hm := hz
  refine s_reg [(.slice g_a__0.a a_.Texts.length g_a__0.c)] [1, 3, 7, 8, 9] [(1, [], .pointer (some ⟨b1, 0, none⟩)), (3, [], .int .i64 0), (7, [], .slice g_a__0.a a_.Texts.length g_a__0.c), (8, [], .int .i64 (ln a_.Texts)), (9, [], .int .i64 0)] [fun wz => V.at1 ⟨b1, 2, none⟩ (.slice g_a__0.a a_.Texts.length g_a__0.c) wz] H7 (by kernel_rfl) ⟨((hS.bk 0 rfl).at1 rfl), trivial⟩ fun _ wd9 H10 hb => ?_
  clear H7
  replace hS := hS.below hb
  clear hb
  refine w_block ?_
  refine w_loop (fun kk a' w' => ∃ (v11 : Int) (v12 : Int), answer_Check_L1 m a_ kk v11 v12 = some _ ∧ Fr 42 [(1, [], .pointer (some ⟨b1, 0, none⟩)), (7, [], .slice g_a__0.a a_.Texts.length g_a__0.c), (8, [], .int .i64 (ln a_.Texts)), (3, [], .int .i64 v11), (9, [], .int .i64 v12)] a' ∧ SH M X w [Ent.blk b1 [.int .i64 a_.Err, .int .i64 a_.Num, .slice g_a__0.a a_.Texts.length g_a__0.c, .slice g_a__1.a a_.Numbers.length g_a__1.c], Ent.im tS a_.Texts g_a__0, Ent.im (tI .i64) a_.Numbers g_a__1] w') ⟨_, 0, 0, hm, FrG.keep (ks := [1, 7, 8, 3, 9]) H10 (by kernel_rfl), hS⟩ ?_
  clear hm H10 hS
  rintro kk _ wd23 ⟨v11, v12, hm, H, hS⟩
  cases kk with
  | zero => exact noneE hm
  | succ kk =>
   rw [answer_Check_L1] at hm
   refine s_reg [] [1, 3, 7, 8, 9, 10] [(1, [], .pointer (some ⟨b1, 0, none⟩)), (3, [], .int .i64 v11), (7, [], .slice g_a__0.a a_.Texts.length g_a__0.c), (8, [], .int .i64 (ln a_.Texts)), (9, [], .int .i64 v12), (10, [], .bool (decide (v12 < (ln a_.Texts))))] [] H (by kernel_rfl) trivial fun _ wd13 H14 hb => ?_
   clear H
   replace hS := hS.below hb
   clear hb
   refine w_seq ?_
   refine w_if H14 rfl (fun hc => ?_) (fun hc => ?c22)
   case c22 =>
    replace hm := bF hc hm
    refine w_exit rfl ?_
    obtain rfl := someE hm
    exact ⟨FrG.keep (ks := [1, 3]) H14 (by kernel_rfl), hS⟩
   replace hm := bT hc hm
   refine w_skip ?_
   refine w_seq ?_
   refine w_block ?_
   obtain ⟨ho15, hm⟩ := chkE hm
   refine s_reg [(.string ⟨⟨(gi a_.Texts v12)⟩⟩)] [1, 3, 5, 7, 8, 9] [(1, [], .pointer (some ⟨b1, 0, none⟩)), (3, [], .int .i64 v11), (5, [], .string ⟨⟨(gi a_.Texts v12)⟩⟩), (7, [], .slice g_a__0.a a_.Texts.length g_a__0.c), (8, [], .int .i64 (ln a_.Texts)), (9, [], .int .i64 v12)] [fun _ => oka g_a__0.a ∧ 0 ≤ v12 ∧ v12 < ln a_.Texts, fun wz => V.at1 ⟨ab g_a__0.a, ao g_a__0.a + (v12).toNat * 1, none⟩ (.string ⟨⟨(gi a_.Texts v12)⟩⟩) wz] H14 (by kernel_rfl) ⟨((hS.im 1 rfl).oki ho15), ((hS.im 1 rfl).at1 ho15 0 rfl), trivial⟩ fun _ wd16 H17 hb => ?_
   clear H14
   replace hS := hS.below hb
   clear hb
   refine w_reg [] [1, 3, 7, 8, 9] [(1, [], .pointer (some ⟨b1, 0, none⟩)), (3, [], .int .i64 (w64 (v11 + (ln (gi a_.Texts v12))))), (7, [], .slice g_a__0.a a_.Texts.length g_a__0.c), (8, [], .int .i64 (ln a_.Texts)), (9, [], .int .i64 v12)] [] H17 (by kernel_rfl) trivial fun _ wd18 H19 hb => ?_
   clear H17
   replace hS := hS.below hb
   clear hb
   refine w_reg [] [1, 3, 7, 8, 9] [(1, [], .pointer (some ⟨b1, 0, none⟩)), (3, [], .int .i64 (w64 (v11 + (ln (gi a_.Texts v12))))), (7, [], .slice g_a__0.a a_.Texts.length g_a__0.c), (8, [], .int .i64 (ln a_.Texts)), (9, [], .int .i64 (w64 (v12 + 1)))] [] H19 (by kernel_rfl) trivial fun _ wd20 H21 hb => ?_
   clear H19
   replace hS := hS.below hb
   clear hb
   exact ⟨_, Nat.lt_succ_self _, w64 (v11 + (ln (gi a_.Texts v12))), w64 (v12 + 1), hm, FrG.keep (ks := [1, 7, 8, 3, 9]) H21 (by kernel_rfl), hS⟩
 ·rintro _ wd34 ⟨H, hS⟩
  refine w_seq ?_
  obtain ⟨x24, hx24, hm⟩ := letE hm
  obtain ⟨x25, hx25, hm⟩ := letE hm
  obtain ⟨x26, hx26, hm⟩ := letE hm
  refine s_reg [(.int .i64 a_.Err), (.int .i64 a_.Err), (.slice g_a__0.a a_.Texts.length g_a__0.c), (.slice g_a__1.a a_.Numbers.length g_a__1.c)] [41] [(41, [], .bool x26)] [fun wz => V.at1 ⟨b1, 0, none⟩ (.int .i64 a_.Err) wz, fun wz => ((decide (a_.Err < 0)) = false ∧ True → V.at1 ⟨b1, 0, none⟩ (.int .i64 a_.Err) wz), fun wz => (x24 = false ∧ True → V.at1 ⟨b1, 2, none⟩ (.slice g_a__0.a a_.Texts.length g_a__0.c) wz), fun wz => ((cond x25 true (decide (20000 < z8))) = false ∧ True → V.at1 ⟨b1, 3, none⟩ (.slice g_a__1.a a_.Numbers.length g_a__1.c) wz)] H (by subst hx24 hx25 hx26; kernel_rfl) ⟨((hS.bk 0 rfl).at1 rfl), fun hg => (hS.bk 0 rfl).at1 rfl, fun hg => (hS.bk 0 rfl).at1 rfl, fun hg => (hS.bk 0 rfl).at1 rfl, trivial⟩ fun _ wd27 H28 hb => ?_
  clear H
  replace hS := hS.below hb
  clear hb
  replace hS : SH M X w [] _ := hS.sel [] rfl
  refine w_if H28 rfl (fun hc => ?c33) (fun hc => ?_)
  case c33 =>
   replace hm := bT hc hm
   refine s_reg [] [2] [(2, [], .int .i64 8)] [] H28 (by kernel_rfl) trivial fun _ wd29 H30 hb => ?_
   clear H28
   replace hS := hS.below hb
   clear hb
   refine w_ret ?_
   obtain rfl := someE hm
   exact retR1 H30 rfl rfl ⟨_, rfl, rfl, (hS.sel [] rfl)⟩
  replace hm := bF hc hm
  refine w_skip ?_
  refine s_reg [] [2] [(2, [], .int .i64 0)] [] H28 (by kernel_rfl) trivial fun _ wd31 H32 hb => ?_
  clear H28
  replace hS := hS.below hb
  clear hb
  refine w_ret ?_
  obtain rfl := someE hm
  exact retR1 H32 rfl rfl ⟨_, rfl, rfl, (hS.sel [] rfl)⟩
theorem answer_Check_ok {g_a__0 : Gh} {g_a__1 : Gh} (m : Nat) (a_ : TAnswer) (r : Int) (hm : answer_Check m a_ = some r) (w : World) (hL : S0 F0 [Ent.im tS a_.Texts g_a__0, Ent.im (tI .i64) a_.Numbers g_a__1] w ∧ fpl [Ent.im tS a_.Texts g_a__0, Ent.im (tI .i64) a_.Numbers g_a__1] = []) : RetB Tryd.prog 13 ⟨[.agg ⟨[.int .i64 a_.Err, .int .i64 a_.Num, .slice g_a__0.a a_.Texts.length g_a__0.c, .slice g_a__1.a a_.Numbers.length g_a__1.c]⟩]⟩ (.int .i64 r) w := retB_of hL (Tryd.call13 _) (fun w' h => answer_Check_w F0 m   a_ r hm w' h)

theorem answer_quote_w  (M : Av) (m : Nat) (s : Str) (r : Str) (hm : answer_quote m s = some r) (w : World) (hS : S0 M [] w) : Calls Tryd.prog 27 ⟨[.string ⟨⟨s⟩⟩]⟩ w (fun e w' => ∃ v, e = .returned v ∧ v = .string ⟨⟨r⟩⟩ ∧ SH M (fpl []) w [] w') := by
 rw [answer_quote] at hm
 have hS0 : SH M (fpl []) w [] w := hS
 generalize hX : fpl [] = X at hS0 ⊢
 clear hS hX
 have hS := hS0
 clear hS0
 refine calls_entryP Tryd.func27 rfl Tryd.ntmps27 rfl fun _ H => ?_
 refine s_reg [] [0] [(0, [], .string ⟨⟨s⟩⟩)] [] H (by kernel_rfl) trivial fun _ wd1 H2 hb => ?_
 clear H
 replace hS := hS.below hb
 clear hb
 refine w_seq ?_
 refine wl_start ?_
 have hd := hS.hand [] [] rfl rfl
 refine m_stp [3, 0] [(0, [], .string ⟨⟨s⟩⟩)] H2 rfl rfl rfl rfl (o_allocB 5 (z := .agg ⟨[.pointer none, .slice none 0 0]⟩) hd (by kernel_rfl) rfl) (fun _ => rfl) fun _ wd4 v H5 hq => ?_
 clear H2 hd
 obtain ⟨b3, rfl, hq⟩ := hq
 replace hS : SH M X w [Ent.bld 70 5 b3 ([] : Str) (.nil)] _ := hS.join [] [] rfl rfl hq
 clear hq
 refine wl_end rfl ?_
 refine w_seq ?_
 refine wl_start ?_
 obtain ⟨ho6, hm⟩ := chkE hm
 obtain ⟨q7, hq7, hm⟩ := letE hm
 have hd := hS.hand [0] [] rfl rfl
 refine m_stp [6, 0, 3] [(0, [], .string ⟨⟨s⟩⟩), (3, [], .pointer (some ⟨b3, 0, none⟩))] H5 rfl rfl rfl rfl (o_callx H5 rfl rfl (bld_WB (34 : Int) (show (0 : Int) ≤ 34 ∧ (34 : Int) < 256 from by decide) ho6 hd)) (fun _ => rfl) fun _ wd8 v H9 hq => ?_
 clear H5 hd
 obtain ⟨g10, rfl, hq⟩ := hq
 rw [← hq7] at hq
 replace hS : SH M X w [Ent.bld 70 5 b3 q7 g10] _ := hS.join [0] [] rfl rfl hq
 clear hq
 refine wl_end rfl ?_
 obtain ⟨z11, hz, hm⟩ := bindE hm
 refine w_cut (fun a' w' => ∃ (g90 : Gh), Fr 48 [(3, [], .pointer (some ⟨b3, 0, none⟩))] a' ∧ SH M X w [Ent.bld 70 5 b3 z11 g90] w') ?_ ?_
 ·replace hm := hz
  refine s_reg [] [0, 3, 8, 9] [(0, [], .string ⟨⟨s⟩⟩), (3, [], .pointer (some ⟨b3, 0, none⟩)), (8, [], .int .i64 (ln s)), (9, [], .int .i64 0)] [] H9 (by kernel_rfl) trivial fun _ wd12 H13 hb => ?_
  clear H9
  replace hS := hS.below hb
  clear hb
  refine w_block ?_
  refine w_loop (fun kk a' w' => ∃ (v14 : Int) (v15 : Str) (g16 : Gh), answer_quote_L1 m s kk v14 v15 = some _ ∧ Fr 48 [(0, [], .string ⟨⟨s⟩⟩), (3, [], .pointer (some ⟨b3, 0, none⟩)), (8, [], .int .i64 (ln s)), (9, [], .int .i64 v14)] a' ∧ SH M X w [Ent.bld 70 5 b3 v15 g16] w') ⟨_, 0, q7, g10, hm, FrG.keep (ks := [0, 3, 8, 9]) H13 (by kernel_rfl), hS⟩ ?_
  clear hm H13 hS
  rintro kk _ wd89 ⟨v14, v15, g16, hm, H, hS⟩
  cases kk with
  | zero => exact noneE hm
  | succ kk =>
   rw [answer_quote_L1] at hm
   refine s_reg [] [0, 3, 8, 9, 10] [(0, [], .string ⟨⟨s⟩⟩), (3, [], .pointer (some ⟨b3, 0, none⟩)), (8, [], .int .i64 (ln s)), (9, [], .int .i64 v14), (10, [], .bool (decide (v14 < (ln s))))] [] H (by kernel_rfl) trivial fun _ wd17 H18 hb => ?_
   clear H
   replace hS := hS.below hb
   clear hb
   refine w_seq ?_
   refine w_if H18 rfl (fun hc => ?_) (fun hc => ?c88)
   case c88 =>
    replace hm := bF hc hm
    refine w_exit rfl ?_
    obtain rfl := someE hm
    exact ⟨g16, FrG.keep (ks := [3]) H18 (by kernel_rfl), hS⟩
   replace hm := bT hc hm
   refine w_skip ?_
   obtain ⟨z19, hz, hm⟩ := bindE hm
   refine w_cut (fun a' w' => ∃ (g84 : Gh), Fr 48 [(0, [], .string ⟨⟨s⟩⟩), (3, [], .pointer (some ⟨b3, 0, none⟩)), (8, [], .int .i64 (ln s)), (9, [], .int .i64 v14)] a' ∧ SH M X w [Ent.bld 70 5 b3 z19 g84] w') ?_ ?_
   ·replace hm := hz
    refine w_block ?_
    refine s_reg [] [0, 3, 4, 8, 9] [(0, [], .string ⟨⟨s⟩⟩), (3, [], .pointer (some ⟨b3, 0, none⟩)), (4, [], .int .i64 v14), (8, [], .int .i64 (ln s)), (9, [], .int .i64 v14)] [] H18 (by kernel_rfl) trivial fun _ wd20 H21 hb => ?_
    clear H18
    replace hS := hS.below hb
    clear hb
    obtain ⟨ho22, hm⟩ := chkE hm
    refine s_reg [] [0, 3, 5, 8, 9] [(0, [], .string ⟨⟨s⟩⟩), (3, [], .pointer (some ⟨b3, 0, none⟩)), (5, [], .int .u8 (bat s v14)), (8, [], .int .i64 (ln s)), (9, [], .int .i64 v14)] [fun _ => 0 ≤ v14 ∧ v14 < ln s] H21 (by kernel_rfl) ⟨ho22, trivial⟩ fun _ wd23 H24 hb => ?_
    clear H21
    replace hS := hS.below hb
    clear hb
    refine w_block ?_
    obtain ⟨z25, hz, hm_z25⟩ := bindE hm
    refine w_cut (fun a' w' => ∃ s_z25 : Str, z25 = Sum.inr s_z25 ∧ ∃ (g74 : Gh), Fr 48 [(0, [], .string ⟨⟨s⟩⟩), (3, [], .pointer (some ⟨b3, 0, none⟩)), (5, [], .int .u8 (bat s v14)), (8, [], .int .i64 (ln s)), (9, [], .int .i64 v14)] a' ∧ SH M X w [Ent.bld 70 5 b3 s_z25 g74] w') ?_ ?_
    ·replace hm := hz
     refine w_block ?_
     refine w_seq ?_
     refine w_block ?_
     refine w_seq ?_
     refine w_block ?_
     refine w_seq ?_
     refine w_block ?_
     refine w_seq ?_
     refine w_seq ?_
     refine s_reg [] [0, 3, 5, 8, 9, 15] [(0, [], .string ⟨⟨s⟩⟩), (3, [], .pointer (some ⟨b3, 0, none⟩)), (5, [], .int .u8 (bat s v14)), (8, [], .int .i64 (ln s)), (9, [], .int .i64 v14), (15, [], .bool ((bat s v14) == 10))] [] H24 (by kernel_rfl) trivial fun _ wd26 H27 hb => ?_
     clear H24
     replace hS := hS.below hb
     clear hb
     refine w_if H27 rfl (fun hc => ?c73) (fun hc => ?_)
     case c73 =>
      replace hm := bT hc hm
      refine w_exit rfl ?_
      refine w_seq ?_
      refine wl_start ?_
      obtain ⟨ho28, hm⟩ := chkE hm
      obtain ⟨q29, hq29, hm⟩ := letE hm
      have hd := hS.hand [0] [] rfl rfl
      refine m_stp [32, 0, 3, 8, 9] [(0, [], .string ⟨⟨s⟩⟩), (3, [], .pointer (some ⟨b3, 0, none⟩)), (8, [], .int .i64 (ln s)), (9, [], .int .i64 v14)] H27 rfl rfl rfl rfl (o_callx H27 rfl rfl (bld_WS [92, 110] ho28 hd)) (fun _ => rfl) fun _ wd30 v H31 hq => ?_
      clear H27 hd
      obtain ⟨g32, rfl, hq⟩ := hq
      rw [← hq29] at hq
      replace hS : SH M X w [Ent.bld 70 5 b3 q29 g32] _ := hS.join [0] [] rfl rfl hq
      clear hq
      refine wl_end rfl ?_
      refine w_exit rfl ?_
      obtain ⟨r33, hr_r33, hm⟩ := bindE hm
      obtain rfl := someE hm
      have hm := hm_z25
      obtain rfl := someE hm
      have hm := hr_r33
      clear hr_r33
      obtain rfl := someE hm
      exact ⟨g32, FrG.keep (ks := [0, 3, 8, 9]) H31 (by kernel_rfl), hS⟩
     replace hm := bF hc hm
     refine w_skip ?_
     refine w_seq ?_
     obtain ⟨x34, hx34, hm⟩ := letE hm
     refine s_reg [] [0, 3, 5, 8, 9, 18] [(0, [], .string ⟨⟨s⟩⟩), (3, [], .pointer (some ⟨b3, 0, none⟩)), (5, [], .int .u8 (bat s v14)), (8, [], .int .i64 (ln s)), (9, [], .int .i64 v14), (18, [], .bool x34)] [] H27 (by subst hx34; kernel_rfl) trivial fun _ wd35 H36 hb => ?_
     clear H27
     replace hS := hS.below hb
     clear hb
     refine w_if H36 rfl (fun hc => ?_) (fun hc => ?c72)
     case c72 =>
      replace hm := bF hc hm
      refine w_skip ?_
      obtain ⟨x63, hx63, hm⟩ := letE hm
      refine s_reg [] [0, 3, 5, 8, 9, 25] [(0, [], .string ⟨⟨s⟩⟩), (3, [], .pointer (some ⟨b3, 0, none⟩)), (5, [], .int .u8 (bat s v14)), (8, [], .int .i64 (ln s)), (9, [], .int .i64 v14), (25, [], .bool x63)] [] H36 (by subst hx63; kernel_rfl) trivial fun _ wd64 H65 hb => ?_
      clear H36
      replace hS := hS.below hb
      clear hb
      refine w_if H65 rfl (fun hc => ?_) (fun hc => ?c71)
      case c71 =>
       replace hm := bF hc hm
       refine w_skip ?_
       refine w_exit rfl ?_
       obtain rfl := someE hm
       exact ⟨_, rfl, g16, FrG.keep (ks := [0, 3, 5, 8, 9]) H65 (by kernel_rfl), hS⟩
      replace hm := bT hc hm
      refine w_exit rfl ?_
      refine wl_start ?_
      obtain ⟨ho66, hm⟩ := chkE hm
      obtain ⟨q67, hq67, hm⟩ := letE hm
      have hd := hS.hand [0] [] rfl rfl
      refine m_stp [42, 0, 3, 5, 8, 9] [(0, [], .string ⟨⟨s⟩⟩), (3, [], .pointer (some ⟨b3, 0, none⟩)), (5, [], .int .u8 (bat s v14)), (8, [], .int .i64 (ln s)), (9, [], .int .i64 v14)] H65 rfl rfl rfl rfl (o_callx H65 rfl rfl (bld_WB (92 : Int) (show (0 : Int) ≤ 92 ∧ (92 : Int) < 256 from by decide) ho66 hd)) (fun _ => rfl) fun _ wd68 v H69 hq => ?_
      clear H65 hd
      obtain ⟨g70, rfl, hq⟩ := hq
      rw [← hq67] at hq
      replace hS : SH M X w [Ent.bld 70 5 b3 q67 g70] _ := hS.join [0] [] rfl rfl hq
      clear hq
      refine wl_end rfl ?_
      obtain rfl := someE hm
      exact ⟨_, rfl, g70, FrG.keep (ks := [0, 3, 5, 8, 9]) H69 (by kernel_rfl), hS⟩
     replace hm := bT hc hm
     refine w_exit rfl ?_
     refine w_seq ?_
     refine w_seq ?_
     refine wl_start ?_
     obtain ⟨ho37, hm⟩ := chkE hm
     obtain ⟨q38, hq38, hm⟩ := letE hm
     have hd := hS.hand [0] [] rfl rfl
     refine m_stp [33, 0, 3, 5, 8, 9] [(0, [], .string ⟨⟨s⟩⟩), (3, [], .pointer (some ⟨b3, 0, none⟩)), (5, [], .int .u8 (bat s v14)), (8, [], .int .i64 (ln s)), (9, [], .int .i64 v14)] H36 rfl rfl rfl rfl (o_callx H36 rfl rfl (bld_WS [92, 120] ho37 hd)) (fun _ => rfl) fun _ wd39 v H40 hq => ?_
     clear H36 hd
     obtain ⟨g41, rfl, hq⟩ := hq
     rw [← hq38] at hq
     replace hS : SH M X w [Ent.bld 70 5 b3 q38 g41] _ := hS.join [0] [] rfl rfl hq
     clear hq
     refine wl_end rfl ?_
     refine w_seq ?_
     refine wl_start ?_
     obtain ⟨ho42, hm⟩ := chkE hm
     obtain ⟨x43, hx43, hm⟩ := letE hm
     refine wl_batch 0 3 [] [0, 3, 5, 8, 9, 36] [(0, [], .string ⟨⟨s⟩⟩), (3, [], .pointer (some ⟨b3, 0, none⟩)), (5, [], .int .u8 (bat s v14)), (8, [], .int .i64 (ln s)), (9, [], .int .i64 v14), (36, [], .int .u8 x43)] [fun _ => (0 : Int) ≤ 4, fun _ => 0 ≤ (Int.fdiv (bat s v14) (2 ^ 4)) ∧ (Int.fdiv (bat s v14) (2 ^ 4)) < ln [48, 49, 50, 51, 52, 53, 54, 55, 56, 57, 97, 98, 99, 100, 101, 102]] H40 (by decide) (by subst hx43; kernel_rfl) ⟨(by show (0 : Int) ≤ 4; decide), ho42, trivial⟩ fun _ wd44 H45 hb => ?_
     clear H40
     replace hS := hS.below hb
     clear hb
     obtain ⟨ho46, hm⟩ := chkE hm
     obtain ⟨ho47, hm⟩ := chkE hm
     obtain ⟨q48, hq48, hm⟩ := letE hm
     have hd := hS.hand [0] [] rfl rfl
     refine m_stp [37, 0, 3, 5, 8, 9] [(0, [], .string ⟨⟨s⟩⟩), (3, [], .pointer (some ⟨b3, 0, none⟩)), (5, [], .int .u8 (bat s v14)), (8, [], .int .i64 (ln s)), (9, [], .int .i64 v14)] H45 rfl rfl rfl rfl (o_callx H45 rfl rfl (bld_WB x43 ho46 ho47 hd)) (fun _ => rfl) fun _ wd49 v H50 hq => ?_
     clear H45 hd
     obtain ⟨g51, rfl, hq⟩ := hq
     rw [← hq48] at hq
     replace hS : SH M X w [Ent.bld 70 5 b3 q48 g51] _ := hS.join [0] [] rfl rfl hq
     clear hq
     refine wl_end rfl ?_
     refine wl_start ?_
     obtain ⟨ho52, hm⟩ := chkE hm
     obtain ⟨x53, hx53, hm⟩ := letE hm
     refine wl_batch 0 3 [] [0, 3, 8, 9, 40] [(0, [], .string ⟨⟨s⟩⟩), (3, [], .pointer (some ⟨b3, 0, none⟩)), (8, [], .int .i64 (ln s)), (9, [], .int .i64 v14), (40, [], .int .u8 x53)] [fun _ => 0 ≤ (ibit .and .u8 (bat s v14) 15) ∧ (ibit .and .u8 (bat s v14) 15) < ln [48, 49, 50, 51, 52, 53, 54, 55, 56, 57, 97, 98, 99, 100, 101, 102]] H50 (by decide) (by subst hx53; kernel_rfl) ⟨ho52, trivial⟩ fun _ wd54 H55 hb => ?_
     clear H50
     replace hS := hS.below hb
     clear hb
     obtain ⟨ho56, hm⟩ := chkE hm
     obtain ⟨ho57, hm⟩ := chkE hm
     obtain ⟨q58, hq58, hm⟩ := letE hm
     have hd := hS.hand [0] [] rfl rfl
     refine m_stp [41, 0, 3, 8, 9] [(0, [], .string ⟨⟨s⟩⟩), (3, [], .pointer (some ⟨b3, 0, none⟩)), (8, [], .int .i64 (ln s)), (9, [], .int .i64 v14)] H55 rfl rfl rfl rfl (o_callx H55 rfl rfl (bld_WB x53 ho56 ho57 hd)) (fun _ => rfl) fun _ wd59 v H60 hq => ?_
     clear H55 hd
     obtain ⟨g61, rfl, hq⟩ := hq
     rw [← hq58] at hq
     replace hS : SH M X w [Ent.bld 70 5 b3 q58 g61] _ := hS.join [0] [] rfl rfl hq
     clear hq
     refine wl_end rfl ?_
     refine w_exit rfl ?_
     obtain ⟨r62, hr_r62, hm⟩ := bindE hm
     obtain rfl := someE hm
     have hm := hm_z25
     obtain rfl := someE hm
     have hm := hr_r62
     clear hr_r62
     obtain rfl := someE hm
     exact ⟨g61, FrG.keep (ks := [0, 3, 8, 9]) H60 (by kernel_rfl), hS⟩
    ·rintro _ wd83 ⟨s_z25, hz, g74, H, hS⟩
     subst hz
     replace hm := sumR hm_z25
     refine w_seq ?_
     refine wl_start ?_
     refine wl_batch 0 1 [] [0, 3, 8, 9, 43] [(0, [], .string ⟨⟨s⟩⟩), (3, [], .pointer (some ⟨b3, 0, none⟩)), (8, [], .int .i64 (ln s)), (9, [], .int .i64 v14), (43, [], .int .u8 (bat s v14))] [] H (by decide) (by kernel_rfl) trivial fun _ wd75 H76 hb => ?_
     clear H
     replace hS := hS.below hb
     clear hb
     obtain ⟨ho77, hm⟩ := chkE hm
     obtain ⟨ho78, hm⟩ := chkE hm
     obtain ⟨q79, hq79, hm⟩ := letE hm
     have hd := hS.hand [0] [] rfl rfl
     refine m_stp [44, 0, 3, 8, 9] [(0, [], .string ⟨⟨s⟩⟩), (3, [], .pointer (some ⟨b3, 0, none⟩)), (8, [], .int .i64 (ln s)), (9, [], .int .i64 v14)] H76 rfl rfl rfl rfl (o_callx H76 rfl rfl (bld_WB (bat s v14) ho77 ho78 hd)) (fun _ => rfl) fun _ wd80 v H81 hq => ?_
     clear H76 hd
     obtain ⟨g82, rfl, hq⟩ := hq
     rw [← hq79] at hq
     replace hS : SH M X w [Ent.bld 70 5 b3 q79 g82] _ := hS.join [0] [] rfl rfl hq
     clear hq
     refine wl_end rfl ?_
     refine w_exit rfl ?_
     obtain rfl := someE hm
     exact ⟨g82, FrG.keep (ks := [0, 3, 8, 9]) H81 (by kernel_rfl), hS⟩
   ·rintro _ wd87 ⟨g84, H, hS⟩
    refine w_reg [] [0, 3, 8, 9] [(0, [], .string ⟨⟨s⟩⟩), (3, [], .pointer (some ⟨b3, 0, none⟩)), (8, [], .int .i64 (ln s)), (9, [], .int .i64 (w64 (v14 + 1)))] [] H (by kernel_rfl) trivial fun _ wd85 H86 hb => ?_
    clear H
    replace hS := hS.below hb
    clear hb
    exact ⟨_, Nat.lt_succ_self _, w64 (v14 + 1), z19, g84, hm, FrG.keep (ks := [0, 3, 8, 9]) H86 (by kernel_rfl), hS⟩
 ·rintro _ wd100 ⟨g90, H, hS⟩
  refine w_seq ?_
  refine wl_start ?_
  obtain ⟨ho91, hm⟩ := chkE hm
  obtain ⟨q92, hq92, hm⟩ := letE hm
  have hd := hS.hand [0] [] rfl rfl
  refine m_stp [46, 3] [(3, [], .pointer (some ⟨b3, 0, none⟩))] H rfl rfl rfl rfl (o_callx H rfl rfl (bld_WB (34 : Int) (show (0 : Int) ≤ 34 ∧ (34 : Int) < 256 from by decide) ho91 hd)) (fun _ => rfl) fun _ wd93 v H94 hq => ?_
  clear H hd
  obtain ⟨g95, rfl, hq⟩ := hq
  rw [← hq92] at hq
  replace hS : SH M X w [Ent.bld 70 5 b3 q92 g95] _ := hS.join [0] [] rfl rfl hq
  clear hq
  refine wl_end rfl ?_
  refine w_seq ?_
  refine wl_start ?_
  have hd := hS.hand [0] [] rfl rfl
  refine m_stp [47] [] H94 rfl rfl rfl rfl (o_callx H94 rfl rfl (bld_St hd)) (fun _ => rfl) fun _ wd96 v H97 hq => ?_
  clear H94 hd
  obtain ⟨rfl, hq⟩ := hq
  replace hS : SH M X w [] _ := hS.join [0] [] rfl rfl hq
  clear hq
  refine wl_batch 1 2 [] [2] [(2, [], .string ⟨⟨q92⟩⟩)] [] H97 (by decide) (by kernel_rfl) trivial fun _ wd98 H99 hb => ?_
  clear H97
  replace hS := hS.below hb
  clear hb
  refine wl_end rfl ?_
  refine w_ret ?_
  obtain rfl := someE hm
  exact retR1 H99 rfl rfl ⟨_, rfl, rfl, (hS.sel [] rfl)⟩
theorem answer_quote_ok  (m : Nat) (s : Str) (r : Str) (hm : answer_quote m s = some r) : Ret Tryd.prog 27 ⟨[.string ⟨⟨s⟩⟩]⟩ (.string ⟨⟨r⟩⟩) := retP_of (Tryd.call27 _) (fun w h => answer_quote_w F0 m   s r hm w h)

theorem strings_Join_w {g_elems : Gh} (M : Av) (m : Nat) (elems : List Str) (sep : Str) (r : Str) (hm : strings_Join m elems sep = some r) (w : World) (hS : S0 M [Ent.im tS elems g_elems] w) : Calls Tryd.prog 29 ⟨[.slice g_elems.a elems.length g_elems.c, .string ⟨⟨sep⟩⟩]⟩ w (fun e w' => ∃ v, e = .returned v ∧ v = .string ⟨⟨r⟩⟩ ∧ SH M (fpl [Ent.im tS elems g_elems]) w [] w') := by
 rw [strings_Join] at hm
 have hS0 : SH M (fpl [Ent.im tS elems g_elems]) w [Ent.im tS elems g_elems] w := hS
 generalize hX : fpl [Ent.im tS elems g_elems] = X at hS0 ⊢
 clear hS hX
 have hS := hS0
 clear hS0
 refine calls_entryP Tryd.func29 rfl Tryd.ntmps29 rfl fun _ H => ?_
 refine s_reg [] [0, 1] [(0, [], .slice g_elems.a elems.length g_elems.c), (1, [], .string ⟨⟨sep⟩⟩)] [] H (by kernel_rfl) trivial fun _ wd1 H2 hb => ?_
 clear H
 replace hS := hS.below hb
 clear hb
 refine w_seq ?_
 refine s_reg [] [0, 1, 12] [(0, [], .slice g_elems.a elems.length g_elems.c), (1, [], .string ⟨⟨sep⟩⟩), (12, [], .int .i64 (ln elems))] [] H2 (by kernel_rfl) trivial fun _ wd3 H4 hb => ?_
 clear H2
 replace hS := hS.below hb
 clear hb
 refine w_block ?_
 refine s_reg [] [0, 1, 12, 13] [(0, [], .slice g_elems.a elems.length g_elems.c), (1, [], .string ⟨⟨sep⟩⟩), (12, [], .int .i64 (ln elems)), (13, [], .bool ((ln elems) == 0))] [] H4 (by kernel_rfl) trivial fun _ wd5 H6 hb => ?_
 clear H4
 replace hS := hS.below hb
 clear hb
 refine w_if H6 rfl (fun hc => ?c111) (fun hc => ?_)
 case c111 =>
  replace hm := bT hc hm
  refine s_reg [] [4] [(4, [], .string ⟨⟨[]⟩⟩)] [] H6 (by kernel_rfl) trivial fun _ wd7 H8 hb => ?_
  clear H6
  replace hS := hS.below hb
  clear hb
  replace hS : SH M X w [] _ := hS.sel [] rfl
  refine w_ret ?_
  obtain rfl := someE hm
  exact retR1 H8 rfl rfl ⟨_, rfl, rfl, (hS.sel [] rfl)⟩
 replace hm := bF hc hm
 refine s_reg [] [0, 1, 15] [(0, [], .slice g_elems.a elems.length g_elems.c), (1, [], .string ⟨⟨sep⟩⟩), (15, [], .bool ((ln elems) == 1))] [] H6 (by kernel_rfl) trivial fun _ wd9 H10 hb => ?_
 clear H6
 replace hS := hS.below hb
 clear hb
 refine w_if H10 rfl (fun hc => ?c110) (fun hc => ?_)
 case c110 =>
  replace hm := bT hc hm
  obtain ⟨ho11, hm⟩ := chkE hm
  refine s_reg [(.string ⟨⟨(gi elems (0 : Int))⟩⟩)] [4] [(4, [], .string ⟨⟨(gi elems (0 : Int))⟩⟩)] [fun _ => oka g_elems.a ∧ 0 ≤ (0 : Int) ∧ (0 : Int) < ln elems, fun wz => V.at1 ⟨ab g_elems.a, ao g_elems.a + ((0 : Int)).toNat * 1, none⟩ (.string ⟨⟨(gi elems (0 : Int))⟩⟩) wz] H10 (by kernel_rfl) ⟨((hS.im 0 rfl).oki ho11), ((hS.im 0 rfl).at1 ho11 0 rfl), trivial⟩ fun _ wd12 H13 hb => ?_
  clear H10
  replace hS := hS.below hb
  clear hb
  replace hS : SH M X w [] _ := hS.sel [] rfl
  refine w_ret ?_
  obtain rfl := someE hm
  exact retR1 H13 rfl rfl ⟨_, rfl, rfl, (hS.sel [] rfl)⟩
 replace hm := bF hc hm
 refine w_skip ?_
 refine s_reg [] [0, 1, 5] [(0, [], .slice g_elems.a elems.length g_elems.c), (1, [], .string ⟨⟨sep⟩⟩), (5, [], .int .i64 0)] [] H10 (by kernel_rfl) trivial fun _ wd14 H15 hb => ?_
 clear H10
 replace hS := hS.below hb
 clear hb
 obtain ⟨z16, hz, hm⟩ := bindE hm
 refine w_cut (fun a' w' => Fr 75 [(0, [], .slice g_elems.a elems.length g_elems.c), (1, [], .string ⟨⟨sep⟩⟩), (5, [], .int .i64 z16)] a' ∧ SH M X w [Ent.im tS elems g_elems] w') ?_ ?_
 ·replace hm := hz
  refine s_reg [] [0, 1, 5, 22] [(0, [], .slice g_elems.a elems.length g_elems.c), (1, [], .string ⟨⟨sep⟩⟩), (5, [], .int .i64 0), (22, [], .bool (decide (0 < (ln sep))))] [] H15 (by kernel_rfl) trivial fun _ wd17 H18 hb => ?_
  clear H15
  replace hS := hS.below hb
  clear hb
  refine w_if H18 rfl (fun hc => ?_) (fun hc => ?c27)
  case c27 =>
   replace hm := bF hc hm
   refine w_skip ?_
   obtain rfl := someE hm
   exact ⟨FrG.keep (ks := [0, 1, 5]) H18 (by kernel_rfl), hS⟩
  replace hm := bT hc hm
  refine w_seq ?_
  obtain ⟨ho19, hm⟩ := chkE hm
  obtain ⟨x20, hx20, hm⟩ := letE hm
  refine s_reg [] [0, 1, 5, 29] [(0, [], .slice g_elems.a elems.length g_elems.c), (1, [], .string ⟨⟨sep⟩⟩), (5, [], .int .i64 0), (29, [], .bool (decide (x20 ≤ (ln sep))))] [fun _ => (w64 ((ln elems) - 1)) ≠ 0] H18 (by subst hx20; kernel_rfl) ⟨ho19, trivial⟩ fun _ wd21 H22 hb => ?_
  clear H18
  replace hS := hS.below hb
  clear hb
  refine w_if H22 rfl (fun hc => ?c26) (fun hc => ?_)
  case c26 =>
   replace hm := bT hc hm
   exact noneE hm
  replace hm := bF hc hm
  refine w_skip ?_
  obtain ⟨x23, hx23, hm⟩ := letE hm
  refine w_reg [] [0, 1, 5] [(0, [], .slice g_elems.a elems.length g_elems.c), (1, [], .string ⟨⟨sep⟩⟩), (5, [], .int .i64 x23)] [] H22 (by subst hx23; kernel_rfl) trivial fun _ wd24 H25 hb => ?_
  clear H22
  replace hS := hS.below hb
  clear hb
  obtain rfl := someE hm
  exact ⟨FrG.keep (ks := [0, 1, 5]) H25 (by kernel_rfl), hS⟩
 ·rintro _ wd109 ⟨H, hS⟩
  obtain ⟨z28, hz, hm⟩ := bindE hm
  refine w_cut (fun a' w' => Fr 75 [(0, [], .slice g_elems.a elems.length g_elems.c), (1, [], .string ⟨⟨sep⟩⟩), (5, [], .int .i64 z28)] a' ∧ SH M X w [Ent.im tS elems g_elems] w') ?_ ?_
  ·replace hm := hz
   refine s_reg [] [0, 1, 5, 39, 40, 41] [(0, [], .slice g_elems.a elems.length g_elems.c), (1, [], .string ⟨⟨sep⟩⟩), (5, [], .int .i64 z16), (39, [], .slice g_elems.a elems.length g_elems.c), (40, [], .int .i64 (ln elems)), (41, [], .int .i64 0)] [] H (by kernel_rfl) trivial fun _ wd29 H30 hb => ?_
   clear H
   replace hS := hS.below hb
   clear hb
   refine w_block ?_
   refine w_loop (fun kk a' w' => ∃ (v31 : Int) (v32 : Int), strings_Join_L1 m elems kk v31 v32 = some _ ∧ Fr 75 [(0, [], .slice g_elems.a elems.length g_elems.c), (1, [], .string ⟨⟨sep⟩⟩), (39, [], .slice g_elems.a elems.length g_elems.c), (40, [], .int .i64 (ln elems)), (5, [], .int .i64 v31), (41, [], .int .i64 v32)] a' ∧ SH M X w [Ent.im tS elems g_elems] w') ⟨_, z16, 0, hm, FrG.keep (ks := [0, 1, 39, 40, 5, 41]) H30 (by kernel_rfl), hS⟩ ?_
   clear hm H30 hS
   rintro kk _ wd47 ⟨v31, v32, hm, H, hS⟩
   cases kk with
   | zero => exact noneE hm
   | succ kk =>
    rw [strings_Join_L1] at hm
    refine s_reg [] [0, 1, 5, 39, 40, 41, 42] [(0, [], .slice g_elems.a elems.length g_elems.c), (1, [], .string ⟨⟨sep⟩⟩), (5, [], .int .i64 v31), (39, [], .slice g_elems.a elems.length g_elems.c), (40, [], .int .i64 (ln elems)), (41, [], .int .i64 v32), (42, [], .bool (decide (v32 < (ln elems))))] [] H (by kernel_rfl) trivial fun _ wd33 H34 hb => ?_
    clear H
    replace hS := hS.below hb
    clear hb
    refine w_seq ?_
    refine w_if H34 rfl (fun hc => ?_) (fun hc => ?c46)
    case c46 =>
     replace hm := bF hc hm
     refine w_exit rfl ?_
     obtain rfl := someE hm
     exact ⟨FrG.keep (ks := [0, 1, 5]) H34 (by kernel_rfl), hS⟩
    replace hm := bT hc hm
    refine w_skip ?_
    refine w_seq ?_
    refine w_block ?_
    obtain ⟨ho35, hm⟩ := chkE hm
    refine s_reg [(.string ⟨⟨(gi elems v32)⟩⟩)] [0, 1, 5, 7, 39, 40, 41] [(0, [], .slice g_elems.a elems.length g_elems.c), (1, [], .string ⟨⟨sep⟩⟩), (5, [], .int .i64 v31), (7, [], .string ⟨⟨(gi elems v32)⟩⟩), (39, [], .slice g_elems.a elems.length g_elems.c), (40, [], .int .i64 (ln elems)), (41, [], .int .i64 v32)] [fun _ => oka g_elems.a ∧ 0 ≤ v32 ∧ v32 < ln elems, fun wz => V.at1 ⟨ab g_elems.a, ao g_elems.a + (v32).toNat * 1, none⟩ (.string ⟨⟨(gi elems v32)⟩⟩) wz] H34 (by kernel_rfl) ⟨((hS.im 0 rfl).oki ho35), ((hS.im 0 rfl).at1 ho35 0 rfl), trivial⟩ fun _ wd36 H37 hb => ?_
    clear H34
    replace hS := hS.below hb
    clear hb
    refine w_seq ?_
    obtain ⟨x38, hx38, hm⟩ := letE hm
    refine s_reg [] [0, 1, 5, 7, 39, 40, 41, 49] [(0, [], .slice g_elems.a elems.length g_elems.c), (1, [], .string ⟨⟨sep⟩⟩), (5, [], .int .i64 v31), (7, [], .string ⟨⟨(gi elems v32)⟩⟩), (39, [], .slice g_elems.a elems.length g_elems.c), (40, [], .int .i64 (ln elems)), (41, [], .int .i64 v32), (49, [], .bool x38)] [] H37 (by subst hx38; kernel_rfl) trivial fun _ wd39 H40 hb => ?_
    clear H37
    replace hS := hS.below hb
    clear hb
    refine w_if H40 rfl (fun hc => ?c45) (fun hc => ?_)
    case c45 =>
     replace hm := bT hc hm
     exact noneE hm
    replace hm := bF hc hm
    refine w_skip ?_
    refine w_reg [] [0, 1, 5, 39, 40, 41] [(0, [], .slice g_elems.a elems.length g_elems.c), (1, [], .string ⟨⟨sep⟩⟩), (5, [], .int .i64 (w64 (v31 + (ln (gi elems v32))))), (39, [], .slice g_elems.a elems.length g_elems.c), (40, [], .int .i64 (ln elems)), (41, [], .int .i64 v32)] [] H40 (by kernel_rfl) trivial fun _ wd41 H42 hb => ?_
    clear H40
    replace hS := hS.below hb
    clear hb
    refine w_reg [] [0, 1, 5, 39, 40, 41] [(0, [], .slice g_elems.a elems.length g_elems.c), (1, [], .string ⟨⟨sep⟩⟩), (5, [], .int .i64 (w64 (v31 + (ln (gi elems v32))))), (39, [], .slice g_elems.a elems.length g_elems.c), (40, [], .int .i64 (ln elems)), (41, [], .int .i64 (w64 (v32 + 1)))] [] H42 (by kernel_rfl) trivial fun _ wd43 H44 hb => ?_
    clear H42
    replace hS := hS.below hb
    clear hb
    exact ⟨_, Nat.lt_succ_self _, w64 (v31 + (ln (gi elems v32))), w64 (v32 + 1), hm, FrG.keep (ks := [0, 1, 39, 40, 5, 41]) H44 (by kernel_rfl), hS⟩
  ·rintro _ wd108 ⟨H, hS⟩
   refine w_seq ?_
   refine wl_start ?_
   have hd := hS.hand [] [0] rfl rfl
   refine m_stp [8, 0, 1, 5] [(0, [], .slice g_elems.a elems.length g_elems.c), (1, [], .string ⟨⟨sep⟩⟩), (5, [], .int .i64 z28)] H rfl rfl rfl rfl (o_allocB 5 (z := .agg ⟨[.pointer none, .slice none 0 0]⟩) hd (by kernel_rfl) rfl) (fun _ => rfl) fun _ wd49 v H50 hq => ?_
   clear H hd
   obtain ⟨b48, rfl, hq⟩ := hq
   replace hS : SH M X w [Ent.bld 70 5 b48 ([] : Str) (.nil), Ent.im tS elems g_elems] _ := hS.join [] [0] rfl rfl hq
   clear hq
   refine wl_end rfl ?_
   refine w_seq ?_
   refine wl_start ?_
   refine wl_batch 0 1 [] [0, 1, 8, 56] [(0, [], .slice g_elems.a elems.length g_elems.c), (1, [], .string ⟨⟨sep⟩⟩), (8, [], .pointer (some ⟨b48, 0, none⟩)), (56, [], .int .i64 z28)] [] H50 (by decide) (by kernel_rfl) trivial fun _ wd51 H52 hb => ?_
   clear H50
   replace hS := hS.below hb
   clear hb
   obtain ⟨ho53, hm⟩ := chkE hm
   have hd := hS.hand [0] [1] rfl rfl
   refine m_stp [57, 0, 1, 8] [(0, [], .slice g_elems.a elems.length g_elems.c), (1, [], .string ⟨⟨sep⟩⟩), (8, [], .pointer (some ⟨b48, 0, none⟩))] H52 rfl rfl rfl rfl (o_callx H52 rfl rfl (bld_Gr z28 ho53 hd)) (fun _ => rfl) fun _ wd54 v H55 hq => ?_
   clear H52 hd
   obtain ⟨g56, rfl, hq⟩ := hq
   replace hS : SH M X w [Ent.bld 70 5 b48 ([] : Str) g56, Ent.im tS elems g_elems] _ := hS.join [0] [1] rfl rfl hq
   clear hq
   refine wl_end rfl ?_
   refine w_seq ?_
   refine wl_start ?_
   obtain ⟨ho57, hm⟩ := chkE hm
   refine wl_batch 0 3 [(.string ⟨⟨(gi elems (0 : Int))⟩⟩)] [0, 1, 8, 60] [(0, [], .slice g_elems.a elems.length g_elems.c), (1, [], .string ⟨⟨sep⟩⟩), (8, [], .pointer (some ⟨b48, 0, none⟩)), (60, [], .string ⟨⟨(gi elems (0 : Int))⟩⟩)] [fun _ => oka g_elems.a ∧ 0 ≤ (0 : Int) ∧ (0 : Int) < ln elems, fun wz => V.at1 ⟨ab g_elems.a, ao g_elems.a + ((0 : Int)).toNat * 1, none⟩ (.string ⟨⟨(gi elems (0 : Int))⟩⟩) wz] H55 (by decide) (by kernel_rfl) ⟨((hS.im 1 rfl).oki ho57), ((hS.im 1 rfl).at1 ho57 0 rfl), trivial⟩ fun _ wd58 H59 hb => ?_
   clear H55
   replace hS := hS.below hb
   clear hb
   obtain ⟨ho60, hm⟩ := chkE hm
   obtain ⟨q61, hq61, hm⟩ := letE hm
   have hd := hS.hand [0] [1] rfl rfl
   refine m_stp [61, 0, 1, 8] [(0, [], .slice g_elems.a elems.length g_elems.c), (1, [], .string ⟨⟨sep⟩⟩), (8, [], .pointer (some ⟨b48, 0, none⟩))] H59 rfl rfl rfl rfl (o_callx H59 rfl rfl (bld_WS (gi elems (0 : Int)) ho60 hd)) (fun _ => rfl) fun _ wd62 v H63 hq => ?_
   clear H59 hd
   obtain ⟨g64, rfl, hq⟩ := hq
   rw [← hq61] at hq
   replace hS : SH M X w [Ent.bld 70 5 b48 q61 g64, Ent.im tS elems g_elems] _ := hS.join [0] [1] rfl rfl hq
   clear hq
   refine wl_end rfl ?_
   obtain ⟨z65, hz, hm⟩ := bindE hm
   refine w_cut (fun a' w' => ∃ (g102 : Gh), Fr 75 [(8, [], .pointer (some ⟨b48, 0, none⟩))] a' ∧ SH M X w [Ent.bld 70 5 b48 z65 g102, Ent.im tS elems g_elems] w') ?_ ?_
   ·replace hm := hz
    refine w_seq ?_
    refine wl_start ?_
    refine wl_batch 0 1 [] [1, 8, 62] [(1, [], .string ⟨⟨sep⟩⟩), (8, [], .pointer (some ⟨b48, 0, none⟩)), (62, [], .slice g_elems.a elems.length g_elems.c)] [] H63 (by decide) (by kernel_rfl) trivial fun _ wd66 H67 hb => ?_
    clear H63
    replace hS := hS.below hb
    clear hb
    obtain ⟨ho68, hm⟩ := chkE hm
    obtain ⟨q69, hq69, hm⟩ := letE hm
    have hd := hS.hand [1] [0, 1] rfl rfl
    refine m_stp [63, 1, 8] [(1, [], .string ⟨⟨sep⟩⟩), (8, [], .pointer (some ⟨b48, 0, none⟩))] H67 rfl rfl rfl rfl (o_sub (T := tS) (E := 9) (g := g_elems) (q := elems) (1 : Int) (ln elems) (.some (.int .i64 1)) .none H67 hd (hd.im 0 rfl) rfl rfl rfl rfl rfl rfl (.inr ⟨_, rfl⟩) (.inl ⟨rfl, rfl⟩) (by kernel_rfl) (by kernel_rfl) ho68) (fun _ => rfl) fun _ wd70 v H71 hq => ?_
    clear H67 hd
    obtain ⟨g72, rfl, hq⟩ := hq
    rw [← hq69] at hq
    rw [← hq69] at H71
    replace hS : SH M X w [Ent.im tS q69 g72, Ent.im tS elems g_elems, Ent.bld 70 5 b48 q61 g64, Ent.im tS elems g_elems] _ := hS.join [1] [0, 1] rfl rfl hq
    clear hq
    refine wl_batch 2 4 [] [1, 8, 63, 64, 65] [(1, [], .string ⟨⟨sep⟩⟩), (8, [], .pointer (some ⟨b48, 0, none⟩)), (63, [], .slice g72.a q69.length g72.c), (64, [], .int .i64 (ln q69)), (65, [], .int .i64 0)] [] H71 (by decide) (by kernel_rfl) trivial fun _ wd74 H75 hb => ?_
    clear H71
    replace hS := hS.below hb
    clear hb
    refine wl_end rfl ?_
    replace hS : SH M X w [Ent.im tS q69 g72, Ent.im tS elems g_elems, Ent.bld 70 5 b48 q61 g64] _ := hS.sel [0, 1, 2] rfl
    refine w_block ?_
    refine w_loop (fun kk a' w' => ∃ (v76 : Int) (v77 : Str) (g78 : Gh), strings_Join_L2 m sep q69 kk v76 v77 = some _ ∧ Fr 75 [(1, [], .string ⟨⟨sep⟩⟩), (8, [], .pointer (some ⟨b48, 0, none⟩)), (63, [], .slice g72.a q69.length g72.c), (64, [], .int .i64 (ln q69)), (65, [], .int .i64 v76)] a' ∧ SH M X w [Ent.im tS q69 g72, Ent.im tS elems g_elems, Ent.bld 70 5 b48 v77 g78] w') ⟨_, 0, q61, g64, hm, FrG.keep (ks := [1, 8, 63, 64, 65]) H75 (by kernel_rfl), hS⟩ ?_
    clear hm H75 hS
    rintro kk _ wd101 ⟨v76, v77, g78, hm, H, hS⟩
    cases kk with
    | zero => exact noneE hm
    | succ kk =>
     rw [strings_Join_L2] at hm
     refine s_reg [] [1, 8, 63, 64, 65, 66] [(1, [], .string ⟨⟨sep⟩⟩), (8, [], .pointer (some ⟨b48, 0, none⟩)), (63, [], .slice g72.a q69.length g72.c), (64, [], .int .i64 (ln q69)), (65, [], .int .i64 v76), (66, [], .bool (decide (v76 < (ln q69))))] [] H (by kernel_rfl) trivial fun _ wd79 H80 hb => ?_
     clear H
     replace hS := hS.below hb
     clear hb
     refine w_seq ?_
     refine w_if H80 rfl (fun hc => ?_) (fun hc => ?c100)
     case c100 =>
      replace hm := bF hc hm
      refine w_exit rfl ?_
      obtain rfl := someE hm
      replace hS : SH M X w [Ent.bld 70 5 b48 v77 g78, Ent.im tS elems g_elems] _ := hS.sel [2, 1] rfl
      exact ⟨g78, FrG.keep (ks := [8]) H80 (by kernel_rfl), hS⟩
     replace hm := bT hc hm
     refine w_skip ?_
     refine w_seq ?_
     refine w_block ?_
     obtain ⟨ho81, hm⟩ := chkE hm
     refine s_reg [(.string ⟨⟨(gi q69 v76)⟩⟩)] [1, 8, 10, 63, 64, 65] [(1, [], .string ⟨⟨sep⟩⟩), (8, [], .pointer (some ⟨b48, 0, none⟩)), (10, [], .string ⟨⟨(gi q69 v76)⟩⟩), (63, [], .slice g72.a q69.length g72.c), (64, [], .int .i64 (ln q69)), (65, [], .int .i64 v76)] [fun _ => oka g72.a ∧ 0 ≤ v76 ∧ v76 < ln q69, fun wz => V.at1 ⟨ab g72.a, ao g72.a + (v76).toNat * 1, none⟩ (.string ⟨⟨(gi q69 v76)⟩⟩) wz] H80 (by kernel_rfl) ⟨((hS.im 0 rfl).oki ho81), ((hS.im 0 rfl).at1 ho81 0 rfl), trivial⟩ fun _ wd82 H83 hb => ?_
     clear H80
     replace hS := hS.below hb
     clear hb
     refine w_seq ?_
     refine wl_start ?_
     refine wl_batch 0 1 [] [1, 8, 10, 63, 64, 65, 69] [(1, [], .string ⟨⟨sep⟩⟩), (8, [], .pointer (some ⟨b48, 0, none⟩)), (10, [], .string ⟨⟨(gi q69 v76)⟩⟩), (63, [], .slice g72.a q69.length g72.c), (64, [], .int .i64 (ln q69)), (65, [], .int .i64 v76), (69, [], .string ⟨⟨sep⟩⟩)] [] H83 (by decide) (by kernel_rfl) trivial fun _ wd84 H85 hb => ?_
     clear H83
     replace hS := hS.below hb
     clear hb
     obtain ⟨ho86, hm⟩ := chkE hm
     obtain ⟨q87, hq87, hm⟩ := letE hm
     have hd := hS.hand [2] [0, 1] rfl rfl
     refine m_stp [70, 1, 8, 10, 63, 64, 65] [(1, [], .string ⟨⟨sep⟩⟩), (8, [], .pointer (some ⟨b48, 0, none⟩)), (10, [], .string ⟨⟨(gi q69 v76)⟩⟩), (63, [], .slice g72.a q69.length g72.c), (64, [], .int .i64 (ln q69)), (65, [], .int .i64 v76)] H85 rfl rfl rfl rfl (o_callx H85 rfl rfl (bld_WS sep ho86 hd)) (fun _ => rfl) fun _ wd88 v H89 hq => ?_
     clear H85 hd
     obtain ⟨g90, rfl, hq⟩ := hq
     rw [← hq87] at hq
     replace hS : SH M X w [Ent.bld 70 5 b48 q87 g90, Ent.im tS q69 g72, Ent.im tS elems g_elems] _ := hS.join [2] [0, 1] rfl rfl hq
     clear hq
     refine wl_end rfl ?_
     refine wl_start ?_
     refine wl_batch 0 1 [] [1, 8, 63, 64, 65, 71] [(1, [], .string ⟨⟨sep⟩⟩), (8, [], .pointer (some ⟨b48, 0, none⟩)), (63, [], .slice g72.a q69.length g72.c), (64, [], .int .i64 (ln q69)), (65, [], .int .i64 v76), (71, [], .string ⟨⟨(gi q69 v76)⟩⟩)] [] H89 (by decide) (by kernel_rfl) trivial fun _ wd91 H92 hb => ?_
     clear H89
     replace hS := hS.below hb
     clear hb
     obtain ⟨ho93, hm⟩ := chkE hm
     obtain ⟨q94, hq94, hm⟩ := letE hm
     have hd := hS.hand [0] [1, 2] rfl rfl
     refine m_stp [72, 1, 8, 63, 64, 65] [(1, [], .string ⟨⟨sep⟩⟩), (8, [], .pointer (some ⟨b48, 0, none⟩)), (63, [], .slice g72.a q69.length g72.c), (64, [], .int .i64 (ln q69)), (65, [], .int .i64 v76)] H92 rfl rfl rfl rfl (o_callx H92 rfl rfl (bld_WS (gi q69 v76) ho93 hd)) (fun _ => rfl) fun _ wd95 v H96 hq => ?_
     clear H92 hd
     obtain ⟨g97, rfl, hq⟩ := hq
     rw [← hq94] at hq
     replace hS : SH M X w [Ent.bld 70 5 b48 q94 g97, Ent.im tS q69 g72, Ent.im tS elems g_elems] _ := hS.join [0] [1, 2] rfl rfl hq
     clear hq
     refine wl_end rfl ?_
     refine w_reg [] [1, 8, 63, 64, 65] [(1, [], .string ⟨⟨sep⟩⟩), (8, [], .pointer (some ⟨b48, 0, none⟩)), (63, [], .slice g72.a q69.length g72.c), (64, [], .int .i64 (ln q69)), (65, [], .int .i64 (w64 (v76 + 1)))] [] H96 (by kernel_rfl) trivial fun _ wd98 H99 hb => ?_
     clear H96
     replace hS := hS.below hb
     clear hb
     replace hS : SH M X w [Ent.im tS q69 g72, Ent.im tS elems g_elems, Ent.bld 70 5 b48 q94 g97] _ := hS.sel [1, 2, 0] rfl
     exact ⟨_, Nat.lt_succ_self _, w64 (v76 + 1), q94, g97, hm, FrG.keep (ks := [1, 8, 63, 64, 65]) H99 (by kernel_rfl), hS⟩
   ·rintro _ wd107 ⟨g102, H, hS⟩
    replace hS : SH M X w [Ent.bld 70 5 b48 z65 g102] _ := hS.sel [0] rfl
    refine w_seq ?_
    refine wl_start ?_
    have hd := hS.hand [0] [] rfl rfl
    refine m_stp [74] [] H rfl rfl rfl rfl (o_callx H rfl rfl (bld_St hd)) (fun _ => rfl) fun _ wd103 v H104 hq => ?_
    clear H hd
    obtain ⟨rfl, hq⟩ := hq
    replace hS : SH M X w [] _ := hS.join [0] [] rfl rfl hq
    clear hq
    refine wl_batch 1 2 [] [4] [(4, [], .string ⟨⟨z65⟩⟩)] [] H104 (by decide) (by kernel_rfl) trivial fun _ wd105 H106 hb => ?_
    clear H104
    replace hS := hS.below hb
    clear hb
    refine wl_end rfl ?_
    refine w_ret ?_
    obtain rfl := someE hm
    exact retR1 H106 rfl rfl ⟨_, rfl, rfl, (hS.sel [] rfl)⟩
theorem strings_Join_ok {g_elems : Gh} (m : Nat) (elems : List Str) (sep : Str) (r : Str) (hm : strings_Join m elems sep = some r) (w : World) (hL : S0 F0 [Ent.im tS elems g_elems] w ∧ fpl [Ent.im tS elems g_elems] = []) : RetB Tryd.prog 29 ⟨[.slice g_elems.a elems.length g_elems.c, .string ⟨⟨sep⟩⟩]⟩ (.string ⟨⟨r⟩⟩) w := retB_of hL (Tryd.call29 _) (fun w' h => strings_Join_w F0 m   elems sep r hm w' h)

theorem answer_list_w {g_l_ : Gh} (M : Av) (m : Nat) (l_ : List Str) (r : Str) (hm : answer_list m l_ = some r) (w : World) (hS : S0 M [Ent.im tS l_ g_l_] w) : Calls Tryd.prog 30 ⟨[.slice g_l_.a l_.length g_l_.c]⟩ w (fun e w' => ∃ v, e = .returned v ∧ v = .string ⟨⟨r⟩⟩ ∧ SH M (fpl [Ent.im tS l_ g_l_]) w [] w') := by
 rw [answer_list] at hm
 have hS0 : SH M (fpl [Ent.im tS l_ g_l_]) w [Ent.im tS l_ g_l_] w := hS
 generalize hX : fpl [Ent.im tS l_ g_l_] = X at hS0 ⊢
 clear hS hX
 have hS := hS0
 clear hS0
 refine calls_entryP Tryd.func30 rfl Tryd.ntmps30 rfl fun _ H => ?_
 refine s_reg [] [0] [(0, [], .slice g_l_.a l_.length g_l_.c)] [] H (by kernel_rfl) trivial fun _ wd1 H2 hb => ?_
 clear H
 replace hS := hS.below hb
 clear hb
 obtain ⟨y3, hy3, hm⟩ := bindE hm
 obtain ⟨ho4, hm⟩ := chkE hm
 obtain ⟨ho5, hm⟩ := chkE hm
 refine s_reg [(.string ⟨⟨y3⟩⟩)] [2] [(2, [], .string ⟨⟨([91] ++ y3) ++ [93]⟩⟩)] [fun wz => RetB Tryd.prog 29 ⟨[.slice g_l_.a l_.length g_l_.c, .string ⟨⟨[44, 32]⟩⟩]⟩ (.string ⟨⟨y3⟩⟩) wz, fun _ => ln [91] + ln y3 ≤ 9223372036854775807, fun _ => ln ([91] ++ y3) + ln [93] ≤ 9223372036854775807] H2 (by kernel_rfl) ⟨(strings_Join_ok (g_elems := g_l_) m _ _ _ hy3 _ (s0im s0nil (hS.im 0 rfl))), ho4, ho5, trivial⟩ fun _ wd6 H7 hb => ?_
 clear H2
 replace hS := hS.below hb
 clear hb
 replace hS : SH M X w [] _ := hS.sel [] rfl
 refine w_ret ?_
 obtain rfl := someE hm
 exact retR1 H7 rfl rfl ⟨_, rfl, rfl, (hS.sel [] rfl)⟩
theorem answer_list_ok {g_l_ : Gh} (m : Nat) (l_ : List Str) (r : Str) (hm : answer_list m l_ = some r) (w : World) (hL : S0 F0 [Ent.im tS l_ g_l_] w ∧ fpl [Ent.im tS l_ g_l_] = []) : RetB Tryd.prog 30 ⟨[.slice g_l_.a l_.length g_l_.c]⟩ (.string ⟨⟨r⟩⟩) w := retB_of hL (Tryd.call30 _) (fun w' h => answer_list_w F0 m   l_ r hm w' h)

theorem answer_Line_w {g_a__0 : Gh} {g_a__1 : Gh} (M : Av) (m : Nat) (a_ : TAnswer) (r : Str × Int) (hm : answer_Line m a_ = some r) (w : World) (hS : S0 M [Ent.im tS a_.Texts g_a__0, Ent.im (tI .i64) a_.Numbers g_a__1, Ent.tab 1 (Lib.pow10Tab.map fun z => Value.int .u64 z)] w) : Calls Tryd.prog 9 ⟨[.agg ⟨[.int .i64 a_.Err, .int .i64 a_.Num, .slice g_a__0.a a_.Texts.length g_a__0.c, .slice g_a__1.a a_.Numbers.length g_a__1.c]⟩]⟩ w (fun e w' => ∃ v, e = .returned v ∧ v = .tuple ⟨[.string ⟨⟨r.1⟩⟩, .int .i64 r.2]⟩ ∧ SH M (fpl [Ent.im tS a_.Texts g_a__0, Ent.im (tI .i64) a_.Numbers g_a__1, Ent.tab 1 (Lib.pow10Tab.map fun z => Value.int .u64 z)]) w [] w') := by
 rw [answer_Line] at hm
 have hS0 : SH M (fpl [Ent.im tS a_.Texts g_a__0, Ent.im (tI .i64) a_.Numbers g_a__1, Ent.tab 1 (Lib.pow10Tab.map fun z => Value.int .u64 z)]) w [Ent.im tS a_.Texts g_a__0, Ent.im (tI .i64) a_.Numbers g_a__1, Ent.tab 1 (Lib.pow10Tab.map fun z => Value.int .u64 z)] w := hS
 generalize hX : fpl [Ent.im tS a_.Texts g_a__0, Ent.im (tI .i64) a_.Numbers g_a__1, Ent.tab 1 (Lib.pow10Tab.map fun z => Value.int .u64 z)] = X at hS0 ⊢
 clear hS hX
 have hS := hS0
 clear hS0
 refine calls_entryP Tryd.func9 rfl Tryd.ntmps9 rfl fun _ H => ?_
 refine w_seq ?_
 refine wl_start ?_
 have hd := hS.hand [] [0, 1, 2] rfl rfl
 refine m_stp [1] [] H rfl rfl rfl rfl (o_box [.int .i64 a_.Err, .int .i64 a_.Num, .slice g_a__0.a a_.Texts.length g_a__0.c, .slice g_a__1.a a_.Numbers.length g_a__1.c] H hd rfl rfl) (fun _ => rfl) fun _ wd2 v H3 hq => ?_
 clear H hd
 obtain ⟨b1, rfl, hq⟩ := hq
 replace hS : SH M X w [Ent.blk b1 [.int .i64 a_.Err, .int .i64 a_.Num, .slice g_a__0.a a_.Texts.length g_a__0.c, .slice g_a__1.a a_.Numbers.length g_a__1.c], Ent.im tS a_.Texts g_a__0, Ent.im (tI .i64) a_.Numbers g_a__1, Ent.tab 1 (Lib.pow10Tab.map fun z => Value.int .u64 z)] _ := hS.join [] [0, 1, 2] rfl rfl hq
 clear hq
 refine wl_batch 1 3 [] [1] [(1, [], .pointer (some ⟨b1, 0, none⟩))] [] H3 (by decide) (by kernel_rfl) trivial fun _ wd4 H5 hb => ?_
 clear H3
 replace hS := hS.below hb
 clear hb
 refine wl_end rfl ?_
 refine w_seq ?_
 obtain ⟨y6, hy6, hm⟩ := bindE hm
 refine s_reg [(.agg ⟨[.int .i64 a_.Err, .int .i64 a_.Num, .slice g_a__0.a a_.Texts.length g_a__0.c, .slice g_a__1.a a_.Numbers.length g_a__1.c]⟩), (.int .i64 y6)] [1, 4] [(1, [], .pointer (some ⟨b1, 0, none⟩)), (4, [], .int .i64 y6)] [fun wz => V.atN b1 0 [.int .i64 a_.Err, .int .i64 a_.Num, .slice g_a__0.a a_.Texts.length g_a__0.c, .slice g_a__1.a a_.Numbers.length g_a__1.c] 0 wz, fun wz => RetB Tryd.prog 13 ⟨[.agg ⟨[.int .i64 a_.Err, .int .i64 a_.Num, .slice g_a__0.a a_.Texts.length g_a__0.c, .slice g_a__1.a a_.Numbers.length g_a__1.c]⟩]⟩ (.int .i64 y6) wz] H5 (by kernel_rfl) ⟨((hS.bk 0 rfl).atD rfl), (answer_Check_ok (g_a__0 := g_a__0) (g_a__1 := g_a__1) m _ _ hy6 _ (s0im (s0im s0nil (hS.im 2 rfl)) (hS.im 1 rfl))), trivial⟩ fun _ wd7 H8 hb => ?_
 clear H5
 replace hS := hS.below hb
 clear hb
 refine s_reg [] [1, 4, 14] [(1, [], .pointer (some ⟨b1, 0, none⟩)), (4, [], .int .i64 y6), (14, [], .bool (y6 != 0))] [] H8 (by kernel_rfl) trivial fun _ wd9 H10 hb => ?_
 clear H8
 replace hS := hS.below hb
 clear hb
 refine w_if H10 rfl (fun hc => ?c93) (fun hc => ?_)
 case c93 =>
  replace hm := bT hc hm
  refine s_reg [] [2, 3] [(2, [], .string ⟨⟨[]⟩⟩), (3, [], .int .i64 y6)] [] H10 (by kernel_rfl) trivial fun _ wd11 H12 hb => ?_
  clear H10
  replace hS := hS.below hb
  clear hb
  replace hS : SH M X w [Ent.tab 1 (Lib.pow10Tab.map fun z => Value.int .u64 z)] _ := hS.sel [3] rfl
  refine w_ret ?_
  obtain rfl := someE hm
  exact retR2 H12 rfl rfl rfl ⟨_, rfl, rfl, (hS.sel [] rfl)⟩
 replace hm := bF hc hm
 refine w_skip ?_
 refine s_reg [] [1, 5, 6] [(1, [], .pointer (some ⟨b1, 0, none⟩)), (5, [], .slice none 0 0), (6, [], .slice none 0 0)] [] H10 (by kernel_rfl) trivial fun _ wd13 H14 hb => ?_
 clear H10
 replace hS := hS.below hb
 clear hb
 obtain ⟨z15, hz, hm⟩ := bindE hm
 refine w_cut (fun a' w' => ∃ (g45 : Gh), Fr 54 [(1, [], .pointer (some ⟨b1, 0, none⟩)), (6, [], .slice none 0 0), (5, [], .slice g45.a z15.length g45.c)] a' ∧ SH M X w [Ent.own 9 tS z15 g45, Ent.blk b1 [.int .i64 a_.Err, .int .i64 a_.Num, .slice g_a__0.a a_.Texts.length g_a__0.c, .slice g_a__1.a a_.Numbers.length g_a__1.c], Ent.im tS a_.Texts g_a__0, Ent.im (tI .i64) a_.Numbers g_a__1, Ent.tab 1 (Lib.pow10Tab.map fun z => Value.int .u64 z)] w') ?_ ?_
 ·replace hm := hz
  refine s_reg [(.slice g_a__0.a a_.Texts.length g_a__0.c)] [1, 5, 6, 17, 18, 19] [(1, [], .pointer (some ⟨b1, 0, none⟩)), (5, [], .slice none 0 0), (6, [], .slice none 0 0), (17, [], .slice g_a__0.a a_.Texts.length g_a__0.c), (18, [], .int .i64 (ln a_.Texts)), (19, [], .int .i64 0)] [fun wz => V.at1 ⟨b1, 2, none⟩ (.slice g_a__0.a a_.Texts.length g_a__0.c) wz] H14 (by kernel_rfl) ⟨((hS.bk 0 rfl).at1 rfl), trivial⟩ fun _ wd16 H17 hb => ?_
  clear H14
  replace hS := hS.below hb
  clear hb
  refine w_block ?_
  replace hS : SH M X w [Ent.own 9 tS ([] : List Str) (.nil), Ent.blk b1 [.int .i64 a_.Err, .int .i64 a_.Num, .slice g_a__0.a a_.Texts.length g_a__0.c, .slice g_a__1.a a_.Numbers.length g_a__1.c], Ent.im tS a_.Texts g_a__0, Ent.im (tI .i64) a_.Numbers g_a__1, Ent.tab 1 (Lib.pow10Tab.map fun z => Value.int .u64 z)] _ := hS.addNil 9 tS
  refine w_loop (fun kk a' w' => ∃ (v19 : List Str) (v21 : Int) (g20 : Gh), answer_Line_L1 m a_ kk v19 v21 = some _ ∧ Fr 54 [(1, [], .pointer (some ⟨b1, 0, none⟩)), (6, [], .slice none 0 0), (17, [], .slice g_a__0.a a_.Texts.length g_a__0.c), (18, [], .int .i64 (ln a_.Texts)), (5, [], .slice g20.a v19.length g20.c), (19, [], .int .i64 v21)] a' ∧ SH M X w [Ent.own 9 tS v19 g20, Ent.blk b1 [.int .i64 a_.Err, .int .i64 a_.Num, .slice g_a__0.a a_.Texts.length g_a__0.c, .slice g_a__1.a a_.Numbers.length g_a__1.c], Ent.im tS a_.Texts g_a__0, Ent.im (tI .i64) a_.Numbers g_a__1, Ent.tab 1 (Lib.pow10Tab.map fun z => Value.int .u64 z)] w') ⟨_, ([] : List Str), 0, Gh.nil, hm, FrG.keep (ks := [1, 6, 17, 18, 5, 19]) H17 (by kernel_rfl), hS⟩ ?_
  clear hm H17 hS
  rintro kk _ wd44 ⟨v19, v21, g20, hm, H, hS⟩
  cases kk with
  | zero => exact noneE hm
  | succ kk =>
   rw [answer_Line_L1] at hm
   refine s_reg [] [1, 5, 6, 17, 18, 19, 20] [(1, [], .pointer (some ⟨b1, 0, none⟩)), (5, [], .slice g20.a v19.length g20.c), (6, [], .slice none 0 0), (17, [], .slice g_a__0.a a_.Texts.length g_a__0.c), (18, [], .int .i64 (ln a_.Texts)), (19, [], .int .i64 v21), (20, [], .bool (decide (v21 < (ln a_.Texts))))] [] H (by kernel_rfl) trivial fun _ wd22 H23 hb => ?_
   clear H
   replace hS := hS.below hb
   clear hb
   refine w_seq ?_
   refine w_if H23 rfl (fun hc => ?_) (fun hc => ?c43)
   case c43 =>
    replace hm := bF hc hm
    refine w_exit rfl ?_
    obtain rfl := someE hm
    exact ⟨g20, FrG.keep (ks := [1, 6, 5]) H23 (by kernel_rfl), hS⟩
   replace hm := bT hc hm
   refine w_skip ?_
   refine w_seq ?_
   refine w_block ?_
   obtain ⟨ho24, hm⟩ := chkE hm
   refine s_reg [(.string ⟨⟨(gi a_.Texts v21)⟩⟩)] [1, 5, 6, 8, 17, 18, 19] [(1, [], .pointer (some ⟨b1, 0, none⟩)), (5, [], .slice g20.a v19.length g20.c), (6, [], .slice none 0 0), (8, [], .string ⟨⟨(gi a_.Texts v21)⟩⟩), (17, [], .slice g_a__0.a a_.Texts.length g_a__0.c), (18, [], .int .i64 (ln a_.Texts)), (19, [], .int .i64 v21)] [fun _ => oka g_a__0.a ∧ 0 ≤ v21 ∧ v21 < ln a_.Texts, fun wz => V.at1 ⟨ab g_a__0.a, ao g_a__0.a + (v21).toNat * 1, none⟩ (.string ⟨⟨(gi a_.Texts v21)⟩⟩) wz] H23 (by kernel_rfl) ⟨((hS.im 2 rfl).oki ho24), ((hS.im 2 rfl).at1 ho24 0 rfl), trivial⟩ fun _ wd25 H26 hb => ?_
   clear H23
   replace hS := hS.below hb
   clear hb
   refine wl_start ?_
   obtain ⟨y27, hy27, hm⟩ := bindE hm
   refine wl_batch 0 3 [(.string ⟨⟨y27⟩⟩)] [1, 6, 17, 18, 19, 23, 25] [(1, [], .pointer (some ⟨b1, 0, none⟩)), (6, [], .slice none 0 0), (17, [], .slice g_a__0.a a_.Texts.length g_a__0.c), (18, [], .int .i64 (ln a_.Texts)), (19, [], .int .i64 v21), (23, [], .slice g20.a v19.length g20.c), (25, [], .string ⟨⟨y27⟩⟩)] [fun wz => RetB Tryd.prog 27 ⟨[.string ⟨⟨(gi a_.Texts v21)⟩⟩]⟩ (.string ⟨⟨y27⟩⟩) wz] H26 (by decide) (by kernel_rfl) ⟨((answer_quote_ok m _ _ hy27).b), trivial⟩ fun _ wd28 H29 hb => ?_
   clear H26
   replace hS := hS.below hb
   clear hb
   have hd := hS.hand [] [0, 1, 2, 3, 4] rfl rfl
   refine m_stp [26, 1, 6, 17, 18, 19, 23] [(1, [], .pointer (some ⟨b1, 0, none⟩)), (6, [], .slice none 0 0), (17, [], .slice g_a__0.a a_.Texts.length g_a__0.c), (18, [], .int .i64 (ln a_.Texts)), (19, [], .int .i64 v21), (23, [], .slice g20.a v19.length g20.c)] H29 rfl rfl rfl rfl (o_lit (T := tS) (E := 9) (zv := .string ⟨⟨[]⟩⟩) [.string ⟨⟨y27⟩⟩] ([y27] : List Str) [gL []] _ H29 hd rfl (by kernel_rfl) (by kernel_rfl) (by kernel_rfl) (by kernel_rfl) (by kernel_rfl) (by kernel_rfl) (by kernel_rfl) rfl (InnL.cons trivial InnL.nil)) (fun _ => rfl) fun _ wd32 v H33 hq => ?_
   clear H29 hd
   obtain ⟨g30, rfl, hq⟩ := hq
   replace hS : SH M X w [Ent.own 9 tS ([y27] : List Str) g30, Ent.own 9 tS v19 g20, Ent.blk b1 [.int .i64 a_.Err, .int .i64 a_.Num, .slice g_a__0.a a_.Texts.length g_a__0.c, .slice g_a__1.a a_.Numbers.length g_a__1.c], Ent.im tS a_.Texts g_a__0, Ent.im (tI .i64) a_.Numbers g_a__1, Ent.tab 1 (Lib.pow10Tab.map fun z => Value.int .u64 z)] _ := hS.join [] [0, 1, 2, 3, 4] rfl rfl hq
   clear hq
   obtain ⟨ho34, hm⟩ := chkE hm
   obtain ⟨q35, hq35, hm⟩ := letE hm
   have hd := hS.hand [1, 0] [2, 3, 4, 5] rfl rfl
   refine m_stp [27, 1, 6, 17, 18, 19] [(1, [], .pointer (some ⟨b1, 0, none⟩)), (6, [], .slice none 0 0), (17, [], .slice g_a__0.a a_.Texts.length g_a__0.c), (18, [], .int .i64 (ln a_.Texts)), (19, [], .int .i64 v21)] H33 rfl rfl rfl rfl (o_app2 (T := tS) (zv := .string ⟨⟨[]⟩⟩) (g1 := g20) (g2 := g30) (l1 := v19) (l2 := ([y27] : List Str)) q35 hq35.symm H33 hd rfl rfl rfl rfl rfl rfl rfl (by kernel_rfl) (by kernel_rfl) rfl rfl ho34) (fun _ => rfl) fun _ wd36 v H37 hq => ?_
   clear H33 hd
   obtain ⟨g38, rfl, hq⟩ := hq
   replace hS : SH M X w [Ent.own 9 tS q35 g38, Ent.own 9 tS ([y27] : List Str) g30, Ent.blk b1 [.int .i64 a_.Err, .int .i64 a_.Num, .slice g_a__0.a a_.Texts.length g_a__0.c, .slice g_a__1.a a_.Numbers.length g_a__1.c], Ent.im tS a_.Texts g_a__0, Ent.im (tI .i64) a_.Numbers g_a__1, Ent.tab 1 (Lib.pow10Tab.map fun z => Value.int .u64 z)] _ := hS.join [1, 0] [2, 3, 4, 5] rfl rfl hq
   clear hq
   refine wl_batch 5 6 [] [1, 5, 6, 17, 18, 19] [(1, [], .pointer (some ⟨b1, 0, none⟩)), (5, [], .slice g38.a q35.length g38.c), (6, [], .slice none 0 0), (17, [], .slice g_a__0.a a_.Texts.length g_a__0.c), (18, [], .int .i64 (ln a_.Texts)), (19, [], .int .i64 v21)] [] H37 (by decide) (by kernel_rfl) trivial fun _ wd39 H40 hb => ?_
   clear H37
   replace hS := hS.below hb
   clear hb
   refine wl_end rfl ?_
   replace hS : SH M X w [Ent.own 9 tS q35 g38, Ent.blk b1 [.int .i64 a_.Err, .int .i64 a_.Num, .slice g_a__0.a a_.Texts.length g_a__0.c, .slice g_a__1.a a_.Numbers.length g_a__1.c], Ent.im tS a_.Texts g_a__0, Ent.im (tI .i64) a_.Numbers g_a__1, Ent.tab 1 (Lib.pow10Tab.map fun z => Value.int .u64 z)] _ := hS.sel [0, 2, 3, 4, 5] rfl
   refine w_reg [] [1, 5, 6, 17, 18, 19] [(1, [], .pointer (some ⟨b1, 0, none⟩)), (5, [], .slice g38.a q35.length g38.c), (6, [], .slice none 0 0), (17, [], .slice g_a__0.a a_.Texts.length g_a__0.c), (18, [], .int .i64 (ln a_.Texts)), (19, [], .int .i64 (w64 (v21 + 1)))] [] H40 (by kernel_rfl) trivial fun _ wd41 H42 hb => ?_
   clear H40
   replace hS := hS.below hb
   clear hb
   exact ⟨_, Nat.lt_succ_self _, q35, w64 (v21 + 1), g38, hm, FrG.keep (ks := [1, 6, 17, 18, 5, 19]) H42 (by kernel_rfl), hS⟩
 ·rintro _ wd92 ⟨g45, H, hS⟩
  obtain ⟨z47, hz, hm⟩ := bindE hm
  refine w_cut (fun a' w' => ∃ (g77 : Gh), Fr 54 [(1, [], .pointer (some ⟨b1, 0, none⟩)), (5, [], .slice g45.a z15.length g45.c), (6, [], .slice g77.a z47.length g77.c)] a' ∧ SH M X w [Ent.own 9 tS z47 g77, Ent.own 9 tS z15 g45, Ent.blk b1 [.int .i64 a_.Err, .int .i64 a_.Num, .slice g_a__0.a a_.Texts.length g_a__0.c, .slice g_a__1.a a_.Numbers.length g_a__1.c], Ent.im tS a_.Texts g_a__0, Ent.im (tI .i64) a_.Numbers g_a__1, Ent.tab 1 (Lib.pow10Tab.map fun z => Value.int .u64 z)] w') ?_ ?_
  ·replace hm := hz
   refine s_reg [(.slice g_a__1.a a_.Numbers.length g_a__1.c)] [1, 5, 6, 30, 31, 32] [(1, [], .pointer (some ⟨b1, 0, none⟩)), (5, [], .slice g45.a z15.length g45.c), (6, [], .slice none 0 0), (30, [], .slice g_a__1.a a_.Numbers.length g_a__1.c), (31, [], .int .i64 (ln a_.Numbers)), (32, [], .int .i64 0)] [fun wz => V.at1 ⟨b1, 3, none⟩ (.slice g_a__1.a a_.Numbers.length g_a__1.c) wz] H (by kernel_rfl) ⟨((hS.bk 1 rfl).at1 rfl), trivial⟩ fun _ wd48 H49 hb => ?_
   clear H
   replace hS := hS.below hb
   clear hb
   refine w_block ?_
   replace hS : SH M X w [Ent.own 9 tS ([] : List Str) (.nil), Ent.own 9 tS z15 g45, Ent.blk b1 [.int .i64 a_.Err, .int .i64 a_.Num, .slice g_a__0.a a_.Texts.length g_a__0.c, .slice g_a__1.a a_.Numbers.length g_a__1.c], Ent.im tS a_.Texts g_a__0, Ent.im (tI .i64) a_.Numbers g_a__1, Ent.tab 1 (Lib.pow10Tab.map fun z => Value.int .u64 z)] _ := hS.addNil 9 tS
   refine w_loop (fun kk a' w' => ∃ (v51 : List Str) (v53 : Int) (g52 : Gh), answer_Line_L2 m a_ kk v51 v53 = some _ ∧ Fr 54 [(1, [], .pointer (some ⟨b1, 0, none⟩)), (5, [], .slice g45.a z15.length g45.c), (30, [], .slice g_a__1.a a_.Numbers.length g_a__1.c), (31, [], .int .i64 (ln a_.Numbers)), (6, [], .slice g52.a v51.length g52.c), (32, [], .int .i64 v53)] a' ∧ SH M X w [Ent.own 9 tS v51 g52, Ent.own 9 tS z15 g45, Ent.blk b1 [.int .i64 a_.Err, .int .i64 a_.Num, .slice g_a__0.a a_.Texts.length g_a__0.c, .slice g_a__1.a a_.Numbers.length g_a__1.c], Ent.im tS a_.Texts g_a__0, Ent.im (tI .i64) a_.Numbers g_a__1, Ent.tab 1 (Lib.pow10Tab.map fun z => Value.int .u64 z)] w') ⟨_, ([] : List Str), 0, Gh.nil, hm, FrG.keep (ks := [1, 5, 30, 31, 6, 32]) H49 (by kernel_rfl), hS⟩ ?_
   clear hm H49 hS
   rintro kk _ wd76 ⟨v51, v53, g52, hm, H, hS⟩
   cases kk with
   | zero => exact noneE hm
   | succ kk =>
    rw [answer_Line_L2] at hm
    refine s_reg [] [1, 5, 6, 30, 31, 32, 33] [(1, [], .pointer (some ⟨b1, 0, none⟩)), (5, [], .slice g45.a z15.length g45.c), (6, [], .slice g52.a v51.length g52.c), (30, [], .slice g_a__1.a a_.Numbers.length g_a__1.c), (31, [], .int .i64 (ln a_.Numbers)), (32, [], .int .i64 v53), (33, [], .bool (decide (v53 < (ln a_.Numbers))))] [] H (by kernel_rfl) trivial fun _ wd54 H55 hb => ?_
    clear H
    replace hS := hS.below hb
    clear hb
    refine w_seq ?_
    refine w_if H55 rfl (fun hc => ?_) (fun hc => ?c75)
    case c75 =>
     replace hm := bF hc hm
     refine w_exit rfl ?_
     obtain rfl := someE hm
     exact ⟨g52, FrG.keep (ks := [1, 5, 6]) H55 (by kernel_rfl), hS⟩
    replace hm := bT hc hm
    refine w_skip ?_
    refine w_seq ?_
    refine w_block ?_
    obtain ⟨ho56, hm⟩ := chkE hm
    refine s_reg [(.int .i64 (gi a_.Numbers v53))] [1, 5, 6, 10, 30, 31, 32] [(1, [], .pointer (some ⟨b1, 0, none⟩)), (5, [], .slice g45.a z15.length g45.c), (6, [], .slice g52.a v51.length g52.c), (10, [], .int .i64 (gi a_.Numbers v53)), (30, [], .slice g_a__1.a a_.Numbers.length g_a__1.c), (31, [], .int .i64 (ln a_.Numbers)), (32, [], .int .i64 v53)] [fun _ => oka g_a__1.a ∧ 0 ≤ v53 ∧ v53 < ln a_.Numbers, fun wz => V.at1 ⟨ab g_a__1.a, ao g_a__1.a + (v53).toNat * 1, none⟩ (.int .i64 (gi a_.Numbers v53)) wz] H55 (by kernel_rfl) ⟨((hS.im 4 rfl).oki ho56), ((hS.im 4 rfl).at1 ho56 0 rfl), trivial⟩ fun _ wd57 H58 hb => ?_
    clear H55
    replace hS := hS.below hb
    clear hb
    refine wl_start ?_
    obtain ⟨y59, hy59, hm⟩ := bindE hm
    refine wl_batch 0 3 [(.string ⟨⟨y59⟩⟩)] [1, 5, 30, 31, 32, 36, 38] [(1, [], .pointer (some ⟨b1, 0, none⟩)), (5, [], .slice g45.a z15.length g45.c), (30, [], .slice g_a__1.a a_.Numbers.length g_a__1.c), (31, [], .int .i64 (ln a_.Numbers)), (32, [], .int .i64 v53), (36, [], .slice g52.a v51.length g52.c), (38, [], .string ⟨⟨y59⟩⟩)] [fun wz => RetB Tryd.prog 28 ⟨[.int .i64 (gi a_.Numbers v53)]⟩ (.string ⟨⟨y59⟩⟩) wz] H58 (by decide) (by kernel_rfl) ⟨(x_Itoa_ok _ _ hy59 _ (s0tab s0nil (hS.at 5 rfl))), trivial⟩ fun _ wd60 H61 hb => ?_
    clear H58
    replace hS := hS.below hb
    clear hb
    have hd := hS.hand [] [0, 1, 2, 3, 4, 5] rfl rfl
    refine m_stp [39, 1, 5, 30, 31, 32, 36] [(1, [], .pointer (some ⟨b1, 0, none⟩)), (5, [], .slice g45.a z15.length g45.c), (30, [], .slice g_a__1.a a_.Numbers.length g_a__1.c), (31, [], .int .i64 (ln a_.Numbers)), (32, [], .int .i64 v53), (36, [], .slice g52.a v51.length g52.c)] H61 rfl rfl rfl rfl (o_lit (T := tS) (E := 9) (zv := .string ⟨⟨[]⟩⟩) [.string ⟨⟨y59⟩⟩] ([y59] : List Str) [gL []] _ H61 hd rfl (by kernel_rfl) (by kernel_rfl) (by kernel_rfl) (by kernel_rfl) (by kernel_rfl) (by kernel_rfl) (by kernel_rfl) rfl (InnL.cons trivial InnL.nil)) (fun _ => rfl) fun _ wd64 v H65 hq => ?_
    clear H61 hd
    obtain ⟨g62, rfl, hq⟩ := hq
    replace hS : SH M X w [Ent.own 9 tS ([y59] : List Str) g62, Ent.own 9 tS v51 g52, Ent.own 9 tS z15 g45, Ent.blk b1 [.int .i64 a_.Err, .int .i64 a_.Num, .slice g_a__0.a a_.Texts.length g_a__0.c, .slice g_a__1.a a_.Numbers.length g_a__1.c], Ent.im tS a_.Texts g_a__0, Ent.im (tI .i64) a_.Numbers g_a__1, Ent.tab 1 (Lib.pow10Tab.map fun z => Value.int .u64 z)] _ := hS.join [] [0, 1, 2, 3, 4, 5] rfl rfl hq
    clear hq
    obtain ⟨ho66, hm⟩ := chkE hm
    obtain ⟨q67, hq67, hm⟩ := letE hm
    have hd := hS.hand [1, 0] [2, 3, 4, 5, 6] rfl rfl
    refine m_stp [40, 1, 5, 30, 31, 32] [(1, [], .pointer (some ⟨b1, 0, none⟩)), (5, [], .slice g45.a z15.length g45.c), (30, [], .slice g_a__1.a a_.Numbers.length g_a__1.c), (31, [], .int .i64 (ln a_.Numbers)), (32, [], .int .i64 v53)] H65 rfl rfl rfl rfl (o_app2 (T := tS) (zv := .string ⟨⟨[]⟩⟩) (g1 := g52) (g2 := g62) (l1 := v51) (l2 := ([y59] : List Str)) q67 hq67.symm H65 hd rfl rfl rfl rfl rfl rfl rfl (by kernel_rfl) (by kernel_rfl) rfl rfl ho66) (fun _ => rfl) fun _ wd68 v H69 hq => ?_
    clear H65 hd
    obtain ⟨g70, rfl, hq⟩ := hq
    replace hS : SH M X w [Ent.own 9 tS q67 g70, Ent.own 9 tS ([y59] : List Str) g62, Ent.own 9 tS z15 g45, Ent.blk b1 [.int .i64 a_.Err, .int .i64 a_.Num, .slice g_a__0.a a_.Texts.length g_a__0.c, .slice g_a__1.a a_.Numbers.length g_a__1.c], Ent.im tS a_.Texts g_a__0, Ent.im (tI .i64) a_.Numbers g_a__1, Ent.tab 1 (Lib.pow10Tab.map fun z => Value.int .u64 z)] _ := hS.join [1, 0] [2, 3, 4, 5, 6] rfl rfl hq
    clear hq
    refine wl_batch 5 6 [] [1, 5, 6, 30, 31, 32] [(1, [], .pointer (some ⟨b1, 0, none⟩)), (5, [], .slice g45.a z15.length g45.c), (6, [], .slice g70.a q67.length g70.c), (30, [], .slice g_a__1.a a_.Numbers.length g_a__1.c), (31, [], .int .i64 (ln a_.Numbers)), (32, [], .int .i64 v53)] [] H69 (by decide) (by kernel_rfl) trivial fun _ wd71 H72 hb => ?_
    clear H69
    replace hS := hS.below hb
    clear hb
    refine wl_end rfl ?_
    replace hS : SH M X w [Ent.own 9 tS q67 g70, Ent.own 9 tS z15 g45, Ent.blk b1 [.int .i64 a_.Err, .int .i64 a_.Num, .slice g_a__0.a a_.Texts.length g_a__0.c, .slice g_a__1.a a_.Numbers.length g_a__1.c], Ent.im tS a_.Texts g_a__0, Ent.im (tI .i64) a_.Numbers g_a__1, Ent.tab 1 (Lib.pow10Tab.map fun z => Value.int .u64 z)] _ := hS.sel [0, 2, 3, 4, 5, 6] rfl
    refine w_reg [] [1, 5, 6, 30, 31, 32] [(1, [], .pointer (some ⟨b1, 0, none⟩)), (5, [], .slice g45.a z15.length g45.c), (6, [], .slice g70.a q67.length g70.c), (30, [], .slice g_a__1.a a_.Numbers.length g_a__1.c), (31, [], .int .i64 (ln a_.Numbers)), (32, [], .int .i64 (w64 (v53 + 1)))] [] H72 (by kernel_rfl) trivial fun _ wd73 H74 hb => ?_
    clear H72
    replace hS := hS.below hb
    clear hb
    exact ⟨_, Nat.lt_succ_self _, q67, w64 (v53 + 1), g70, hm, FrG.keep (ks := [1, 5, 30, 31, 6, 32]) H74 (by kernel_rfl), hS⟩
  ·rintro _ wd91 ⟨g77, H, hS⟩
   obtain ⟨y80, hy80, hm⟩ := bindE hm
   obtain ⟨y81, hy81, hm⟩ := bindE hm
   obtain ⟨y82, hy82, hm⟩ := bindE hm
   obtain ⟨y83, hy83, hm⟩ := bindE hm
   obtain ⟨y86, hy86, hm⟩ := bindE hm
   refine s_drawS (base := [(1, [], .pointer (some ⟨b1, 0, none⟩)), (5, [], .slice g45.a z15.length g45.c), (6, [], .slice g77.a z47.length g77.c)]) (L := [Ent.own 9 tS z47 g77, Ent.own 9 tS z15 g45, Ent.blk b1 [.int .i64 a_.Err, .int .i64 a_.Num, .slice g_a__0.a a_.Texts.length g_a__0.c, .slice g_a__1.a a_.Numbers.length g_a__1.c], Ent.im tS a_.Texts g_a__0, Ent.im (tI .i64) a_.Numbers g_a__1, Ent.tab 1 (Lib.pow10Tab.map fun z => Value.int .u64 z)]) 14 6 (fun yg79 => [.pointer (some ⟨b1, 0, none⟩), .int .i64 a_.Err, .string ⟨⟨y80⟩⟩, .pointer (some ⟨b1, 1, none⟩), .int .i64 a_.Num, .string ⟨⟨y81⟩⟩, .slice g45.a z15.length g45.c, .string ⟨⟨y82⟩⟩, .slice g77.a z47.length g77.c, .string ⟨⟨y83⟩⟩, .slice (yg79 10 0).a 4 (yg79 10 0).c, .string ⟨⟨y86⟩⟩, .string ⟨⟨y86⟩⟩, .int .i64 0]) (fun yg79 => [[], [], [], [], [], [], [], [], [], [], [Ent.own 9 tS ([y80, y81, y82, y83] : List Str) (yg79 10 0)], [], [], []]) [[16, 17, 18], [16, 17, 18], [19], [16, 17, 18], [16, 17, 18], [19], [15], [15], [14], [14], [], [10], [], []] [[], [], [], [], [], [], [], [], [], [], [], [], [], []] [[0], [0, 1], [0, 1, 2], [3], [3, 4], [3, 4, 5], [6], [6, 7], [8], [8, 9], [0, 1, 2, 3, 4, 5, 6, 7, 8, 9, 10], [0, 1, 2, 3, 4, 5, 6, 7, 8, 9, 10, 11], [0, 1, 2, 3, 4, 5, 6, 7, 8, 9, 10, 11, 12], [13]] [] (FrG.keep (ks := [1, 5, 6]) H (by kernel_rfl)) (fun _ _ h => by cases h) (by kernel_rfl) hS (by kernel_rfl) rfl rfl (by kernel_rfl) (by kernel_rfl) (by kernel_rfl) (gd_none (by kernel_rfl) _ _) ?hloc_yg79 ?hstep_yg79 fun _ wd87 yg79 H88 hv hS => ?hK_yg79
   case hloc_yg79 => exact ⟨(fun _ _ _ _ => ⟨rfl, rfl⟩), (fun _ _ _ _ => ⟨rfl, rfl⟩), (fun _ _ _ _ => ⟨rfl, rfl⟩), (fun _ _ _ _ => ⟨rfl, rfl⟩), (fun _ _ _ _ => ⟨rfl, rfl⟩), (fun _ _ _ _ => ⟨rfl, rfl⟩), (fun _ _ _ _ => ⟨rfl, rfl⟩), (fun _ _ _ _ => ⟨rfl, rfl⟩), (fun _ _ _ _ => ⟨rfl, rfl⟩), (fun _ _ _ _ => ⟨rfl, rfl⟩), (fun yg79 i g hi => by have h10 : updC yg79 i g 10 = yg79 10 := updC_out hi rfl; exact ⟨(show (.slice ((updC yg79 i g) 10 0).a 4 ((updC yg79 i g) 10 0).c : Value) = .slice (yg79 10 0).a 4 (yg79 10 0).c by simp only [h10]), (show ([Ent.own 9 tS ([y80, y81, y82, y83] : List Str) ((updC yg79 i g) 10 0)] : List Ent) = [Ent.own 9 tS ([y80, y81, y82, y83] : List Str) (yg79 10 0)] by simp only [h10])⟩), (fun _ _ _ _ => ⟨rfl, rfl⟩), (fun _ _ _ _ => ⟨rfl, rfl⟩), (fun _ _ _ _ => ⟨rfl, rfl⟩), trivial⟩
   case hstep_yg79 =>
    refine ⟨?_, ?_, ?_, ?_, ?_, ?_, ?_, ?_, ?_, ?_, ?_, ?_, ?_, ?_, trivial⟩
    ·intro o ho a w yg79 M Hb hv hO hS
     obtain rfl := Option.some.inj ho
     exact Stp.mono (o_evs [] (.pointer (some ⟨b1, 0, none⟩)) none [] Hb rfl (by kernel_rfl) (fun q e => by cases e)) fun _ _ hq => ⟨gL [], fun _ _ => hq.1, (hS.below hq.2.below).sel [0, 1, 2] rfl⟩
    ·intro o ho a w yg79 M Hb hv hO hS
     obtain rfl := Option.some.inj ho
     exact Stp.mono (o_evs [(.int .i64 a_.Err)] (.int .i64 a_.Err) (some (fun wz => V.at1 ⟨b1, 0, none⟩ (.int .i64 a_.Err) wz)) [] ((Hb).add (hv 0 (by decide) (by decide) 42 rfl)) rfl (by kernel_rfl) (fun q e => by cases e; exact ((hS.bk 0 rfl).at1 rfl))) fun _ _ hq => ⟨gL [], fun _ _ => hq.1, (hS.below hq.2.below).sel [0, 1, 2] rfl⟩
    ·intro o ho a w yg79 M Hb hv hO hS
     obtain rfl := Option.some.inj ho
     exact Stp.mono (o_evs [(.string ⟨⟨y80⟩⟩)] (.string ⟨⟨y80⟩⟩) (some (fun wz => RetB Tryd.prog 28 ⟨[.int .i64 a_.Err]⟩ (.string ⟨⟨y80⟩⟩) wz)) [] ((Hb).add (hv 1 (by decide) (by decide) 43 rfl)) rfl (by kernel_rfl) (fun q e => by cases e; exact (x_Itoa_ok _ _ hy80 _ (s0tab s0nil (hS.at 0 rfl))))) fun _ _ hq => ⟨gL [], fun _ _ => hq.1, (hS.below hq.2.below).sel [0] rfl⟩
    ·intro o ho a w yg79 M Hb hv hO hS
     obtain rfl := Option.some.inj ho
     exact Stp.mono (o_evs [] (.pointer (some ⟨b1, 1, none⟩)) none [] Hb rfl (by kernel_rfl) (fun q e => by cases e)) fun _ _ hq => ⟨gL [], fun _ _ => hq.1, (hS.below hq.2.below).sel [0, 1, 2] rfl⟩
    ·intro o ho a w yg79 M Hb hv hO hS
     obtain rfl := Option.some.inj ho
     exact Stp.mono (o_evs [(.int .i64 a_.Num)] (.int .i64 a_.Num) (some (fun wz => V.at1 ⟨b1, 1, none⟩ (.int .i64 a_.Num) wz)) [] ((Hb).add (hv 3 (by decide) (by decide) 45 rfl)) rfl (by kernel_rfl) (fun q e => by cases e; exact ((hS.bk 0 rfl).at1 rfl))) fun _ _ hq => ⟨gL [], fun _ _ => hq.1, (hS.below hq.2.below).sel [0, 1, 2] rfl⟩
    ·intro o ho a w yg79 M Hb hv hO hS
     obtain rfl := Option.some.inj ho
     exact Stp.mono (o_evs [(.string ⟨⟨y81⟩⟩)] (.string ⟨⟨y81⟩⟩) (some (fun wz => RetB Tryd.prog 28 ⟨[.int .i64 a_.Num]⟩ (.string ⟨⟨y81⟩⟩) wz)) [] ((Hb).add (hv 4 (by decide) (by decide) 46 rfl)) rfl (by kernel_rfl) (fun q e => by cases e; exact (x_Itoa_ok _ _ hy81 _ (s0tab s0nil (hS.at 0 rfl))))) fun _ _ hq => ⟨gL [], fun _ _ => hq.1, (hS.below hq.2.below).sel [0] rfl⟩
    ·intro o ho a w yg79 M Hb hv hO hS
     obtain rfl := Option.some.inj ho
     exact Stp.mono (o_evs [] (.slice g45.a z15.length g45.c) none [] Hb rfl (by kernel_rfl) (fun q e => by cases e)) fun _ _ hq => ⟨gL [], fun _ _ => hq.1, (hS.below hq.2.below).sel [0] rfl⟩
    ·intro o ho a w yg79 M Hb hv hO hS
     obtain rfl := Option.some.inj ho
     exact Stp.mono (o_evs [(.string ⟨⟨y82⟩⟩)] (.string ⟨⟨y82⟩⟩) (some (fun wz => RetB Tryd.prog 30 ⟨[.slice g45.a z15.length g45.c]⟩ (.string ⟨⟨y82⟩⟩) wz)) [] ((Hb).add (hv 6 (by decide) (by decide) 48 rfl)) rfl (by kernel_rfl) (fun q e => by cases e; exact (answer_list_ok (g_l_ := g45) m _ _ hy82 _ (s0im s0nil (hS.osl 0 rfl))))) fun _ _ hq => ⟨gL [], fun _ _ => hq.1, (hS.below hq.2.below).sel [0] rfl⟩
    ·intro o ho a w yg79 M Hb hv hO hS
     obtain rfl := Option.some.inj ho
     exact Stp.mono (o_evs [] (.slice g77.a z47.length g77.c) none [] Hb rfl (by kernel_rfl) (fun q e => by cases e)) fun _ _ hq => ⟨gL [], fun _ _ => hq.1, (hS.below hq.2.below).sel [0] rfl⟩
    ·intro o ho a w yg79 M Hb hv hO hS
     obtain rfl := Option.some.inj ho
     exact Stp.mono (o_evs [(.string ⟨⟨y83⟩⟩)] (.string ⟨⟨y83⟩⟩) (some (fun wz => RetB Tryd.prog 30 ⟨[.slice g77.a z47.length g77.c]⟩ (.string ⟨⟨y83⟩⟩) wz)) [] ((Hb).add (hv 8 (by decide) (by decide) 50 rfl)) rfl (by kernel_rfl) (fun q e => by cases e; exact (answer_list_ok (g_l_ := g77) m _ _ hy83 _ (s0im s0nil (hS.osl 0 rfl))))) fun _ _ hq => ⟨gL [], fun _ _ => hq.1, (hS.below hq.2.below).sel [0] rfl⟩
    ·intro o ho a w yg79 M Hb hv hO hS0
     obtain rfl := Option.some.inj ho
     have H : Fr 54 ([(51, [], .string ⟨⟨y83⟩⟩), (49, [], .string ⟨⟨y82⟩⟩), (47, [], .string ⟨⟨y81⟩⟩), (44, [], .string ⟨⟨y80⟩⟩)] ++ [(1, [], .pointer (some ⟨b1, 0, none⟩)), (5, [], .slice g45.a z15.length g45.c), (6, [], .slice g77.a z47.length g77.c)]) _ := ((((Hb).add (hv 2 (by decide) (by decide) 44 rfl)).add (hv 5 (by decide) (by decide) 47 rfl)).add (hv 7 (by decide) (by decide) 49 rfl)).add (hv 9 (by decide) (by decide) 51 rfl)
     obtain ⟨X, hX⟩ : ∃ X, X = fpl [] := ⟨_, rfl⟩
     have hS : SH M X w [] w := by rw [hX]; exact hS0
     have hd := hS.hand [] [] rfl rfl
     refine Stp.mono (o_lit (T := tS) (E := 9) (zv := .string ⟨⟨[]⟩⟩) [.string ⟨⟨y80⟩⟩, .string ⟨⟨y81⟩⟩, .string ⟨⟨y82⟩⟩, .string ⟨⟨y83⟩⟩] ([y80, y81, y82, y83] : List Str) [gL [], gL [], gL [], gL []] _ H hd rfl (by kernel_rfl) (by kernel_rfl) (by kernel_rfl) (by kernel_rfl) (by kernel_rfl) (by kernel_rfl) (by kernel_rfl) rfl (InnL.cons trivial (InnL.cons trivial (InnL.cons trivial (InnL.cons trivial InnL.nil))))) ?_
     rintro v w2 hq
     obtain ⟨g84, rfl, hq⟩ := hq
     replace hS : SH M X w [Ent.own 9 tS ([y80, y81, y82, y83] : List Str) g84] _ := hS.join [] [] rfl rfl hq
     clear hq
     rw [hX] at hS
     exact ⟨gL [g84], fun _ _ => rfl, hS.sel [0] rfl⟩
    ·intro o ho a w yg79 M Hb hv hO hS
     obtain rfl := Option.some.inj ho
     exact Stp.mono (o_evs [(.string ⟨⟨y86⟩⟩)] (.string ⟨⟨y86⟩⟩) (some (fun wz => RetB Tryd.prog 29 ⟨[.slice (yg79 10 0).a 4 (yg79 10 0).c, .string ⟨⟨[32]⟩⟩]⟩ (.string ⟨⟨y86⟩⟩) wz)) [] ((Hb).add (hv 10 (by decide) (by decide) 52 rfl)) rfl (by kernel_rfl) (fun q e => by cases e; exact (strings_Join_ok (g_elems := (yg79 10 0)) m _ _ _ hy86 _ (s0im s0nil (hS.osl 0 rfl))))) fun _ _ hq => ⟨gL [], fun _ _ => hq.1, (hS.below hq.2.below).sel [0] rfl⟩
    ·intro o ho a w yg79 M Hb hv hO hS
     obtain rfl := Option.some.inj ho
     exact Stp.mono (o_evs [] (.string ⟨⟨y86⟩⟩) none [] ((Hb).add (hv 11 (by decide) (by decide) 53 rfl)) rfl (by kernel_rfl) (fun q e => by cases e)) fun _ _ hq => ⟨gL [], fun _ _ => hq.1, (hS.below hq.2.below).sel [] rfl⟩
    ·intro o ho a w yg79 M Hb hv hO hS
     obtain rfl := Option.some.inj ho
     exact Stp.mono (o_evs [] (.int .i64 0) none [] Hb rfl (by kernel_rfl) (fun q e => by cases e)) fun _ _ hq => ⟨gL [], fun _ _ => hq.1, (hS.below hq.2.below).sel [] rfl⟩
   have H89 : Fr 54 [(3, [], .int .i64 0), (2, [], .string ⟨⟨y86⟩⟩)] _ := (FrG.add (FrG.add (FrG.keep (ks := []) H88 (by kernel_rfl)) (hv 12 2 rfl)) (hv 13 3 rfl))
   replace hS : SH M X w [Ent.own 9 tS ([y80, y81, y82, y83] : List Str) (yg79 10 0), Ent.own 9 tS z47 g77, Ent.own 9 tS z15 g45, Ent.blk b1 [.int .i64 a_.Err, .int .i64 a_.Num, .slice g_a__0.a a_.Texts.length g_a__0.c, .slice g_a__1.a a_.Numbers.length g_a__1.c], Ent.im tS a_.Texts g_a__0, Ent.im (tI .i64) a_.Numbers g_a__1, Ent.tab 1 (Lib.pow10Tab.map fun z => Value.int .u64 z)] _ := hS
   clear hv H88
   generalize yg79 10 0 = g90 at H89 hS
   replace hS : SH M X w [Ent.tab 1 (Lib.pow10Tab.map fun z => Value.int .u64 z)] _ := hS.sel [6] rfl
   refine w_ret ?_
   obtain rfl := someE hm
   exact retR2 H89 rfl rfl rfl ⟨_, rfl, rfl, (hS.sel [] rfl)⟩
theorem answer_Line_ok {g_a__0 : Gh} {g_a__1 : Gh} (m : Nat) (a_ : TAnswer) (r : Str × Int) (hm : answer_Line m a_ = some r) (w : World) (hL : S0 F0 [Ent.im tS a_.Texts g_a__0, Ent.im (tI .i64) a_.Numbers g_a__1, Ent.tab 1 (Lib.pow10Tab.map fun z => Value.int .u64 z)] w ∧ fpl [Ent.im tS a_.Texts g_a__0, Ent.im (tI .i64) a_.Numbers g_a__1, Ent.tab 1 (Lib.pow10Tab.map fun z => Value.int .u64 z)] = []) : RetB Tryd.prog 9 ⟨[.agg ⟨[.int .i64 a_.Err, .int .i64 a_.Num, .slice g_a__0.a a_.Texts.length g_a__0.c, .slice g_a__1.a a_.Numbers.length g_a__1.c]⟩]⟩ (.tuple ⟨[.string ⟨⟨r.1⟩⟩, .int .i64 r.2]⟩) w := retB_of hL (Tryd.call9 _) (fun w' h => answer_Line_w F0 m   a_ r hm w' h)

theorem x_strings_IndexAny_ok (x0 : Str) (x1 : Str) (r : Int) (hm : x_strings_IndexAny x0 x1 = some r) (w : World) : RetB Tryd.prog 53 ⟨[.string ⟨⟨x0⟩⟩, .string ⟨⟨x1⟩⟩]⟩ (.int .i64 r) w := by
  obtain ⟨h, hm⟩ := chkE hm
  obtain rfl := someE hm
  exact .inl ⟨Tryd.call53 _, fun w' _ => (ia_at x0 x1 h w').mono fun e w'' he => ⟨he.1, he.2⟩⟩

theorem answer_read_2_w {b_u0 : Nat} (M : Av) (u0 : Str) (r : Int × Bool × Str) (hm : answer_read_2 u0 = some r) (w : World) (hS : S0 M [Ent.blk b_u0 [.string ⟨⟨u0⟩⟩], Ent.gifc 2, Ent.gifc 3] w) : Calls Tryd.prog 52 ⟨[.pointer (some ⟨b_u0, 0, none⟩)]⟩ w (fun e w' => ∃ v, e = .returned v ∧ v = .tuple ⟨[.int .i64 r.1, .bool r.2.1]⟩ ∧ SH M (fpl [Ent.blk b_u0 [.string ⟨⟨u0⟩⟩], Ent.gifc 2, Ent.gifc 3]) w [Ent.blk b_u0 [.string ⟨⟨r.2.2⟩⟩]] w') := by
 rw [answer_read_2] at hm
 have hS0 : SH M (fpl [Ent.blk b_u0 [.string ⟨⟨u0⟩⟩], Ent.gifc 2, Ent.gifc 3]) w [Ent.blk b_u0 [.string ⟨⟨u0⟩⟩], Ent.gifc 2, Ent.gifc 3] w := hS
 generalize hX : fpl [Ent.blk b_u0 [.string ⟨⟨u0⟩⟩], Ent.gifc 2, Ent.gifc 3] = X at hS0 ⊢
 clear hS hX
 have hS := hS0
 clear hS0
 refine calls_entryP Tryd.func52 rfl Tryd.ntmps52 rfl fun _ H => ?_
 refine s_reg [] [0] [(0, [], .pointer (some ⟨b_u0, 0, none⟩))] [] H (by kernel_rfl) trivial fun _ wd1 H2 hb => ?_
 clear H
 replace hS := hS.below hb
 clear hb
 obtain ⟨y3, hy3, hm⟩ := bindE hm
 refine s_reg [(.string ⟨⟨u0⟩⟩), (.int .i64 y3)] [0, 3] [(0, [], .pointer (some ⟨b_u0, 0, none⟩)), (3, [], .int .i64 y3)] [fun wz => V.at1 ⟨b_u0, 0, none⟩ (.string ⟨⟨u0⟩⟩) wz, fun wz => RetB Tryd.prog 53 ⟨[.string ⟨⟨u0⟩⟩, .string ⟨⟨[32, 44, 93]⟩⟩]⟩ (.int .i64 y3) wz] H2 (by kernel_rfl) ⟨((hS.bk 0 rfl).at1 rfl), (x_strings_IndexAny_ok _ _ _ hy3 _), trivial⟩ fun _ wd4 H5 hb => ?_
 clear H2
 replace hS := hS.below hb
 clear hb
 refine w_seq ?_
 refine s_reg [] [0, 3, 9] [(0, [], .pointer (some ⟨b_u0, 0, none⟩)), (3, [], .int .i64 y3), (9, [], .bool (decide (y3 < 0)))] [] H5 (by kernel_rfl) trivial fun _ wd6 H7 hb => ?_
 clear H5
 replace hS := hS.below hb
 clear hb
 refine w_if H7 rfl (fun hc => ?c34) (fun hc => ?_)
 case c34 =>
  replace hm := bT hc hm
  refine s_reg [] [1, 2] [(1, [], .int .i64 0), (2, [], .bool false)] [] H7 (by kernel_rfl) trivial fun _ wd8 H9 hb => ?_
  clear H7
  replace hS := hS.below hb
  clear hb
  refine w_ret ?_
  obtain rfl := someE hm
  exact retR2 H9 rfl rfl rfl ⟨_, rfl, rfl, (hS.sel [0] rfl)⟩
 replace hm := bF hc hm
 refine w_skip ?_
 refine w_seq ?_
 refine wl_start ?_
 obtain ⟨ho10, hm⟩ := chkE hm
 refine wl_batch 0 3 [(.string ⟨⟨u0⟩⟩)] [0, 3, 13] [(0, [], .pointer (some ⟨b_u0, 0, none⟩)), (3, [], .int .i64 y3), (13, [], .string ⟨⟨sub u0 0 y3⟩⟩)] [fun wz => V.at1 ⟨b_u0, 0, none⟩ (.string ⟨⟨u0⟩⟩) wz, fun _ => 0 ≤ y3 ∧ y3 ≤ ln u0] H7 (by decide) (by kernel_rfl) ⟨((hS.bk 0 rfl).at1 rfl), ho10, trivial⟩ fun _ wd11 H12 hb => ?_
 clear H7
 replace hS := hS.below hb
 clear hb
 obtain ⟨y13, hy13, hm⟩ := bindE hm
 have hd := hS.hand [1, 2] [0, 1, 2] rfl rfl
 refine m_stp [14, 0, 3] [(0, [], .pointer (some ⟨b_u0, 0, none⟩)), (3, [], .int .i64 y3)] H12 rfl rfl rfl rfl (o_callx H12 rfl rfl (x_Atoi_ok _ _ hy13 _ _ hd)) (fun _ => rfl) fun _ wd14 v H15 hq => ?_
 clear H12 hd
 obtain ⟨g16, rfl, hq⟩ := hq
 replace hS : SH M X w [Ent.blk b_u0 [.string ⟨⟨u0⟩⟩], Ent.gifc 2, Ent.gifc 3] _ := hS.join [1, 2] [0, 1, 2] rfl rfl hq
 clear hq
 generalize hz_z17 : y13.2 = z17 at H15 hm
 cases z17
 case false =>
  replace hm := bF rfl hm
  refine wl_batch 4 9 [] [0, 3, 4, 5] [(0, [], .pointer (some ⟨b_u0, 0, none⟩)), (3, [], .int .i64 y3), (4, [], .int .i64 y13.1), (5, [], .iface 122 (.pointer g16.a))] [] H15 (by decide) (by kernel_rfl) trivial fun _ wd26 H27 hb => ?_
  clear H15
  replace hS := hS.below hb
  clear hb
  refine wl_end rfl ?_
  refine w_seq ?_
  refine wl_start ?_
  refine wl_batch 0 3 [(.string ⟨⟨u0⟩⟩)] [0, 4, 5, 19] [(0, [], .pointer (some ⟨b_u0, 0, none⟩)), (4, [], .int .i64 y13.1), (5, [], .iface 122 (.pointer g16.a)), (19, [], .string ⟨⟨sub u0 y3 (ln u0)⟩⟩)] [fun wz => V.at1 ⟨b_u0, 0, none⟩ (.string ⟨⟨u0⟩⟩) wz, fun _ => 0 ≤ y3 ∧ y3 ≤ ln u0] H27 (by decide) (by kernel_rfl) ⟨((hS.bk 0 rfl).at1 rfl), ho10, trivial⟩ fun _ wd28 H29 hb => ?_
  clear H27
  replace hS := hS.below hb
  clear hb
  have hd := hS.hand [0] [1, 2] rfl rfl
  refine m_stp0 [4, 5] [(4, [], .int .i64 y13.1), (5, [], .iface 122 (.pointer g16.a))] H29 rfl rfl rfl (o_store [.string ⟨⟨sub u0 y3 (ln u0)⟩⟩] H29 hd rfl rfl (by kernel_rfl) rfl rfl rfl) rfl fun _ wd30 H31 hq => ?_
  clear H29 hd
  obtain ⟨_, hq⟩ := hq
  replace hS : SH M X w [Ent.blk b_u0 [.string ⟨⟨sub u0 y3 (ln u0)⟩⟩], Ent.gifc 2, Ent.gifc 3] _ := hS.join [0] [1, 2] rfl rfl hq
  clear hq
  refine wl_end rfl ?_
  refine s_draw [] [1, 2] [(1, [], .int .i64 y13.1), (2, [], .bool false)] [] H31 (by kernel_rfl) (by kernel_rfl) (by kernel_rfl) trivial fun _ wd32 H33 hb => ?_
  clear H31
  replace hS := hS.below hb
  clear hb
  refine w_ret ?_
  obtain rfl := someE hm
  exact retR2 H33 rfl rfl rfl ⟨_, rfl, rfl, (hS.sel [0] rfl)⟩
 replace hm := bT rfl hm
 refine wl_batch 4 9 [] [0, 3, 4, 5] [(0, [], .pointer (some ⟨b_u0, 0, none⟩)), (3, [], .int .i64 y3), (4, [], .int .i64 y13.1), (5, [], .nilIface)] [] H15 (by decide) (by kernel_rfl) trivial fun _ wd18 H19 hb => ?_
 clear H15
 replace hS := hS.below hb
 clear hb
 refine wl_end rfl ?_
 refine w_seq ?_
 refine wl_start ?_
 refine wl_batch 0 3 [(.string ⟨⟨u0⟩⟩)] [0, 4, 5, 19] [(0, [], .pointer (some ⟨b_u0, 0, none⟩)), (4, [], .int .i64 y13.1), (5, [], .nilIface), (19, [], .string ⟨⟨sub u0 y3 (ln u0)⟩⟩)] [fun wz => V.at1 ⟨b_u0, 0, none⟩ (.string ⟨⟨u0⟩⟩) wz, fun _ => 0 ≤ y3 ∧ y3 ≤ ln u0] H19 (by decide) (by kernel_rfl) ⟨((hS.bk 0 rfl).at1 rfl), ho10, trivial⟩ fun _ wd20 H21 hb => ?_
 clear H19
 replace hS := hS.below hb
 clear hb
 have hd := hS.hand [0] [1, 2] rfl rfl
 refine m_stp0 [4, 5] [(4, [], .int .i64 y13.1), (5, [], .nilIface)] H21 rfl rfl rfl (o_store [.string ⟨⟨sub u0 y3 (ln u0)⟩⟩] H21 hd rfl rfl (by kernel_rfl) rfl rfl rfl) rfl fun _ wd22 H23 hq => ?_
 clear H21 hd
 obtain ⟨_, hq⟩ := hq
 replace hS : SH M X w [Ent.blk b_u0 [.string ⟨⟨sub u0 y3 (ln u0)⟩⟩], Ent.gifc 2, Ent.gifc 3] _ := hS.join [0] [1, 2] rfl rfl hq
 clear hq
 refine wl_end rfl ?_
 refine s_draw [] [1, 2] [(1, [], .int .i64 y13.1), (2, [], .bool true)] [] H23 (by kernel_rfl) (by kernel_rfl) (by kernel_rfl) trivial fun _ wd24 H25 hb => ?_
 clear H23
 replace hS := hS.below hb
 clear hb
 refine w_ret ?_
 obtain rfl := someE hm
 exact retR2 H25 rfl rfl rfl ⟨_, rfl, rfl, (hS.sel [0] rfl)⟩
theorem answer_read_2_ok {b_u0 : Nat} (u0 : Str) (r : Int × Bool × Str) (hm : answer_read_2 u0 = some r) (M : Av) (w : World) (hS : S0 M [Ent.blk b_u0 [.string ⟨⟨u0⟩⟩], Ent.gifc 2, Ent.gifc 3] w) : DoesX Tryd.prog 52 ⟨[.pointer (some ⟨b_u0, 0, none⟩)]⟩ w (fun v w' => v = .tuple ⟨[.int .i64 r.1, .bool r.2.1]⟩ ∧ SH M (fpl [Ent.blk b_u0 [.string ⟨⟨u0⟩⟩], Ent.gifc 2, Ent.gifc 3]) w [Ent.blk b_u0 [.string ⟨⟨r.2.2⟩⟩]] w') := ⟨Tryd.call52 _, answer_read_2_w M   u0 r hm w hS⟩

theorem stringslite_HasPrefix_w  (M : Av) (s : Str) (prefix_ : Str) (r : Bool) (hm : stringslite_HasPrefix s prefix_ = some r) (w : World) (hS : S0 M [] w) : Calls Tryd.prog 89 ⟨[.string ⟨⟨s⟩⟩, .string ⟨⟨prefix_⟩⟩]⟩ w (fun e w' => ∃ v, e = .returned v ∧ v = .bool r ∧ SH M (fpl []) w [] w') := by
 rw [stringslite_HasPrefix] at hm
 have hS0 : SH M (fpl []) w [] w := hS
 generalize hX : fpl [] = X at hS0 ⊢
 clear hS hX
 have hS := hS0
 clear hS0
 refine calls_entryP Tryd.func89 rfl Tryd.ntmps89 rfl fun _ H => ?_
 refine s_reg [] [0, 1] [(0, [], .string ⟨⟨s⟩⟩), (1, [], .string ⟨⟨prefix_⟩⟩)] [] H (by kernel_rfl) trivial fun _ wd1 H2 hb => ?_
 clear H
 replace hS := hS.below hb
 clear hb
 obtain ⟨ho3, hm⟩ := chkE hm
 obtain ⟨x4, hx4, hm⟩ := letE hm
 refine s_reg [] [4] [(4, [], .bool x4)] [fun _ => ((decide ((ln prefix_) ≤ (ln s))) = true ∧ True → 0 ≤ (ln prefix_) ∧ (ln prefix_) ≤ ln s)] H2 (by subst hx4; kernel_rfl) ⟨fun hg => (ho3 hg.1), trivial⟩ fun _ wd5 H6 hb => ?_
 clear H2
 replace hS := hS.below hb
 clear hb
 refine w_ret ?_
 obtain rfl := someE hm
 exact retR1 H6 rfl rfl ⟨_, rfl, rfl, (hS.sel [] rfl)⟩
theorem stringslite_HasPrefix_ok  (s : Str) (prefix_ : Str) (r : Bool) (hm : stringslite_HasPrefix s prefix_ = some r) : Ret Tryd.prog 89 ⟨[.string ⟨⟨s⟩⟩, .string ⟨⟨prefix_⟩⟩]⟩ (.bool r) := retP_of (Tryd.call89 _) (fun w h => stringslite_HasPrefix_w F0   s prefix_ r hm w h)

theorem stringslite_CutPrefix_w  (M : Av) (s : Str) (prefix_ : Str) (r : Str × Bool) (hm : stringslite_CutPrefix s prefix_ = some r) (w : World) (hS : S0 M [] w) : Calls Tryd.prog 72 ⟨[.string ⟨⟨s⟩⟩, .string ⟨⟨prefix_⟩⟩]⟩ w (fun e w' => ∃ v, e = .returned v ∧ v = .tuple ⟨[.string ⟨⟨r.1⟩⟩, .bool r.2]⟩ ∧ SH M (fpl []) w [] w') := by
 rw [stringslite_CutPrefix] at hm
 have hS0 : SH M (fpl []) w [] w := hS
 generalize hX : fpl [] = X at hS0 ⊢
 clear hS hX
 have hS := hS0
 clear hS0
 refine calls_entryP Tryd.func72 rfl Tryd.ntmps72 rfl fun _ H => ?_
 refine s_reg [] [0, 1] [(0, [], .string ⟨⟨s⟩⟩), (1, [], .string ⟨⟨prefix_⟩⟩)] [] H (by kernel_rfl) trivial fun _ wd1 H2 hb => ?_
 clear H
 replace hS := hS.below hb
 clear hb
 refine w_seq ?_
 obtain ⟨y3, hy3, hm⟩ := bindE hm
 refine s_reg [(.bool y3)] [0, 1, 9] [(0, [], .string ⟨⟨s⟩⟩), (1, [], .string ⟨⟨prefix_⟩⟩), (9, [], .bool (!y3))] [fun wz => RetB Tryd.prog 89 ⟨[.string ⟨⟨s⟩⟩, .string ⟨⟨prefix_⟩⟩]⟩ (.bool y3) wz] H2 (by kernel_rfl) ⟨((stringslite_HasPrefix_ok _ _ _ hy3).b), trivial⟩ fun _ wd4 H5 hb => ?_
 clear H2
 replace hS := hS.below hb
 clear hb
 refine w_if H5 rfl (fun hc => ?c11) (fun hc => ?_)
 case c11 =>
  replace hm := bT hc hm
  refine s_reg [] [4, 5] [(4, [], .string ⟨⟨s⟩⟩), (5, [], .bool false)] [] H5 (by kernel_rfl) trivial fun _ wd6 H7 hb => ?_
  clear H5
  replace hS := hS.below hb
  clear hb
  refine w_ret ?_
  obtain rfl := someE hm
  exact retR2 H7 rfl rfl rfl ⟨_, rfl, rfl, (hS.sel [] rfl)⟩
 replace hm := bF hc hm
 refine w_skip ?_
 obtain ⟨ho8, hm⟩ := chkE hm
 refine s_reg [] [4, 5] [(4, [], .string ⟨⟨sub s (ln prefix_) (ln s)⟩⟩), (5, [], .bool true)] [fun _ => 0 ≤ (ln prefix_) ∧ (ln prefix_) ≤ ln s] H5 (by kernel_rfl) ⟨ho8, trivial⟩ fun _ wd9 H10 hb => ?_
 clear H5
 replace hS := hS.below hb
 clear hb
 refine w_ret ?_
 obtain rfl := someE hm
 exact retR2 H10 rfl rfl rfl ⟨_, rfl, rfl, (hS.sel [] rfl)⟩
theorem stringslite_CutPrefix_ok  (s : Str) (prefix_ : Str) (r : Str × Bool) (hm : stringslite_CutPrefix s prefix_ = some r) : Ret Tryd.prog 72 ⟨[.string ⟨⟨s⟩⟩, .string ⟨⟨prefix_⟩⟩]⟩ (.tuple ⟨[.string ⟨⟨r.1⟩⟩, .bool r.2]⟩) := retP_of (Tryd.call72 _) (fun w h => stringslite_CutPrefix_w F0   s prefix_ r hm w h)

theorem strings_CutPrefix_w  (M : Av) (s : Str) (prefix_ : Str) (r : Str × Bool) (hm : strings_CutPrefix s prefix_ = some r) (w : World) (hS : S0 M [] w) : Calls Tryd.prog 51 ⟨[.string ⟨⟨s⟩⟩, .string ⟨⟨prefix_⟩⟩]⟩ w (fun e w' => ∃ v, e = .returned v ∧ v = .tuple ⟨[.string ⟨⟨r.1⟩⟩, .bool r.2]⟩ ∧ SH M (fpl []) w [] w') := by
 rw [strings_CutPrefix] at hm
 have hS0 : SH M (fpl []) w [] w := hS
 generalize hX : fpl [] = X at hS0 ⊢
 clear hS hX
 have hS := hS0
 clear hS0
 refine calls_entryP Tryd.func51 rfl Tryd.ntmps51 rfl fun _ H => ?_
 refine s_reg [] [0, 1] [(0, [], .string ⟨⟨s⟩⟩), (1, [], .string ⟨⟨prefix_⟩⟩)] [] H (by kernel_rfl) trivial fun _ wd1 H2 hb => ?_
 clear H
 replace hS := hS.below hb
 clear hb
 obtain ⟨y3, hy3, hm⟩ := bindE hm
 refine s_reg [(.tuple ⟨[.string ⟨⟨y3.1⟩⟩, .bool y3.2]⟩)] [4, 5] [(4, [], .string ⟨⟨y3.1⟩⟩), (5, [], .bool y3.2)] [fun wz => RetB Tryd.prog 72 ⟨[.string ⟨⟨s⟩⟩, .string ⟨⟨prefix_⟩⟩]⟩ (.tuple ⟨[.string ⟨⟨y3.1⟩⟩, .bool y3.2]⟩) wz] H2 (by kernel_rfl) ⟨((stringslite_CutPrefix_ok _ _ _ hy3).b), trivial⟩ fun _ wd4 H5 hb => ?_
 clear H2
 replace hS := hS.below hb
 clear hb
 refine w_ret ?_
 obtain rfl := someE hm
 exact retR2 H5 rfl rfl rfl ⟨_, rfl, rfl, (hS.sel [] rfl)⟩
theorem strings_CutPrefix_ok  (s : Str) (prefix_ : Str) (r : Str × Bool) (hm : strings_CutPrefix s prefix_ = some r) : Ret Tryd.prog 51 ⟨[.string ⟨⟨s⟩⟩, .string ⟨⟨prefix_⟩⟩]⟩ (.tuple ⟨[.string ⟨⟨r.1⟩⟩, .bool r.2]⟩) := retP_of (Tryd.call51 _) (fun w h => strings_CutPrefix_w F0   s prefix_ r hm w h)

theorem answer_read_1_w {b_u0 : Nat} (M : Av) (what : Str) (u0 : Str) (r : Bool × Str) (hm : answer_read_1 what u0 = some r) (w : World) (hS : S0 M [Ent.blk b_u0 [.string ⟨⟨u0⟩⟩]] w) : Calls Tryd.prog 50 ⟨[.string ⟨⟨what⟩⟩, .pointer (some ⟨b_u0, 0, none⟩)]⟩ w (fun e w' => ∃ v, e = .returned v ∧ v = .bool r.1 ∧ SH M (fpl [Ent.blk b_u0 [.string ⟨⟨u0⟩⟩]]) w [Ent.blk b_u0 [.string ⟨⟨r.2⟩⟩]] w') := by
 rw [answer_read_1] at hm
 have hS0 : SH M (fpl [Ent.blk b_u0 [.string ⟨⟨u0⟩⟩]]) w [Ent.blk b_u0 [.string ⟨⟨u0⟩⟩]] w := hS
 generalize hX : fpl [Ent.blk b_u0 [.string ⟨⟨u0⟩⟩]] = X at hS0 ⊢
 clear hS hX
 have hS := hS0
 clear hS0
 refine calls_entryP Tryd.func50 rfl Tryd.ntmps50 rfl fun _ H => ?_
 refine s_reg [] [0, 1] [(0, [], .string ⟨⟨what⟩⟩), (1, [], .pointer (some ⟨b_u0, 0, none⟩))] [] H (by kernel_rfl) trivial fun _ wd1 H2 hb => ?_
 clear H
 replace hS := hS.below hb
 clear hb
 obtain ⟨y3, hy3, hm⟩ := bindE hm
 refine s_reg [(.string ⟨⟨u0⟩⟩), (.tuple ⟨[.string ⟨⟨y3.1⟩⟩, .bool y3.2]⟩)] [1, 4, 5] [(1, [], .pointer (some ⟨b_u0, 0, none⟩)), (4, [], .string ⟨⟨y3.1⟩⟩), (5, [], .bool y3.2)] [fun wz => V.at1 ⟨b_u0, 0, none⟩ (.string ⟨⟨u0⟩⟩) wz, fun wz => RetB Tryd.prog 51 ⟨[.string ⟨⟨u0⟩⟩, .string ⟨⟨what⟩⟩]⟩ (.tuple ⟨[.string ⟨⟨y3.1⟩⟩, .bool y3.2]⟩) wz] H2 (by kernel_rfl) ⟨((hS.bk 0 rfl).at1 rfl), ((strings_CutPrefix_ok _ _ _ hy3).b), trivial⟩ fun _ wd4 H5 hb => ?_
 clear H2
 replace hS := hS.below hb
 clear hb
 refine w_seq ?_
 refine wl_start ?_
 refine wl_batch 0 1 [] [1, 5, 12] [(1, [], .pointer (some ⟨b_u0, 0, none⟩)), (5, [], .bool y3.2), (12, [], .string ⟨⟨y3.1⟩⟩)] [] H5 (by decide) (by kernel_rfl) trivial fun _ wd6 H7 hb => ?_
 clear H5
 replace hS := hS.below hb
 clear hb
 have hd := hS.hand [0] [] rfl rfl
 refine m_stp0 [5] [(5, [], .bool y3.2)] H7 rfl rfl rfl (o_store [.string ⟨⟨y3.1⟩⟩] H7 hd rfl rfl (by kernel_rfl) rfl rfl rfl) rfl fun _ wd8 H9 hq => ?_
 clear H7 hd
 obtain ⟨_, hq⟩ := hq
 replace hS : SH M X w [Ent.blk b_u0 [.string ⟨⟨y3.1⟩⟩]] _ := hS.join [0] [] rfl rfl hq
 clear hq
 refine wl_end rfl ?_
 refine s_reg [] [3] [(3, [], .bool y3.2)] [] H9 (by kernel_rfl) trivial fun _ wd10 H11 hb => ?_
 clear H9
 replace hS := hS.below hb
 clear hb
 refine w_ret ?_
 obtain rfl := someE hm
 exact retR1 H11 rfl rfl ⟨_, rfl, rfl, (hS.sel [0] rfl)⟩
theorem answer_read_1_ok {b_u0 : Nat} (what : Str) (u0 : Str) (r : Bool × Str) (hm : answer_read_1 what u0 = some r) (M : Av) (w : World) (hS : S0 M [Ent.blk b_u0 [.string ⟨⟨u0⟩⟩]] w) : DoesX Tryd.prog 50 ⟨[.string ⟨⟨what⟩⟩, .pointer (some ⟨b_u0, 0, none⟩)]⟩ w (fun v w' => v = .bool r.1 ∧ SH M (fpl [Ent.blk b_u0 [.string ⟨⟨u0⟩⟩]]) w [Ent.blk b_u0 [.string ⟨⟨r.2⟩⟩]] w') := ⟨Tryd.call50 _, answer_read_1_w M   what u0 r hm w hS⟩

theorem strings_HasPrefix_w  (M : Av) (s : Str) (prefix_ : Str) (r : Bool) (hm : strings_HasPrefix s prefix_ = some r) (w : World) (hS : S0 M [] w) : Calls Tryd.prog 79 ⟨[.string ⟨⟨s⟩⟩, .string ⟨⟨prefix_⟩⟩]⟩ w (fun e w' => ∃ v, e = .returned v ∧ v = .bool r ∧ SH M (fpl []) w [] w') := by
 rw [strings_HasPrefix] at hm
 have hS0 : SH M (fpl []) w [] w := hS
 generalize hX : fpl [] = X at hS0 ⊢
 clear hS hX
 have hS := hS0
 clear hS0
 refine calls_entryP Tryd.func79 rfl Tryd.ntmps79 rfl fun _ H => ?_
 refine s_reg [] [0, 1] [(0, [], .string ⟨⟨s⟩⟩), (1, [], .string ⟨⟨prefix_⟩⟩)] [] H (by kernel_rfl) trivial fun _ wd1 H2 hb => ?_
 clear H
 replace hS := hS.below hb
 clear hb
 obtain ⟨y3, hy3, hm⟩ := bindE hm
 refine s_reg [(.bool y3)] [4] [(4, [], .bool y3)] [fun wz => RetB Tryd.prog 89 ⟨[.string ⟨⟨s⟩⟩, .string ⟨⟨prefix_⟩⟩]⟩ (.bool y3) wz] H2 (by kernel_rfl) ⟨((stringslite_HasPrefix_ok _ _ _ hy3).b), trivial⟩ fun _ wd4 H5 hb => ?_
 clear H2
 replace hS := hS.below hb
 clear hb
 refine w_ret ?_
 obtain rfl := someE hm
 exact retR1 H5 rfl rfl ⟨_, rfl, rfl, (hS.sel [] rfl)⟩
theorem strings_HasPrefix_ok  (s : Str) (prefix_ : Str) (r : Bool) (hm : strings_HasPrefix s prefix_ = some r) : Ret Tryd.prog 79 ⟨[.string ⟨⟨s⟩⟩, .string ⟨⟨prefix_⟩⟩]⟩ (.bool r) := retP_of (Tryd.call79 _) (fun w h => strings_HasPrefix_w F0   s prefix_ r hm w h)

theorem nat99 (x0 : Str) (x1 : Int) (w : World) : RetB Tryd.prog 99 ⟨[.string ⟨⟨x0⟩⟩, .int .u8 x1]⟩ (.int .i64 (nIndexByte x0 x1)) w := nat_IndexByteString Tryd.func99 (by kernel_rfl) rfl (by kernel_rfl) (by kernel_rfl) _ _ w

theorem stringslite_IndexByte_w  (M : Av) (s : Str) (c_ : Int) (r : Int) (hm : stringslite_IndexByte s c_ = r) (w : World) (hS : S0 M [] w) : Calls Tryd.prog 83 ⟨[.string ⟨⟨s⟩⟩, .int .u8 c_]⟩ w (fun e w' => ∃ v, e = .returned v ∧ v = .int .i64 r ∧ SH M (fpl []) w [] w') := by
 rw [stringslite_IndexByte] at hm
 have hS0 : SH M (fpl []) w [] w := hS
 generalize hX : fpl [] = X at hS0 ⊢
 clear hS hX
 have hS := hS0
 clear hS0
 refine calls_entryP Tryd.func83 rfl Tryd.ntmps83 rfl fun _ H => ?_
 refine s_reg [] [0, 1] [(0, [], .string ⟨⟨s⟩⟩), (1, [], .int .u8 c_)] [] H (by kernel_rfl) trivial fun _ wd1 H2 hb => ?_
 clear H
 replace hS := hS.below hb
 clear hb
 refine s_reg [(.int .i64 (nIndexByte s c_))] [4] [(4, [], .int .i64 (nIndexByte s c_))] [fun wz => RetB Tryd.prog 99 ⟨[.string ⟨⟨s⟩⟩, .int .u8 c_]⟩ (.int .i64 (nIndexByte s c_)) wz] H2 (by kernel_rfl) ⟨(nat99 _ _ _), trivial⟩ fun _ wd3 H4 hb => ?_
 clear H2
 replace hS := hS.below hb
 clear hb
 refine w_ret ?_
 subst hm
 exact retR1 H4 rfl rfl ⟨_, rfl, rfl, (hS.sel [] rfl)⟩
theorem stringslite_IndexByte_ok  (s : Str) (c_ : Int) : Ret Tryd.prog 83 ⟨[.string ⟨⟨s⟩⟩, .int .u8 c_]⟩ (.int .i64 (stringslite_IndexByte s c_)) := retP_of (Tryd.call83 _) (fun w h => stringslite_IndexByte_w F0   s c_ _ rfl w h)

theorem strings_IndexByte_w  (M : Av) (s : Str) (c_ : Int) (r : Int) (hm : strings_IndexByte s c_ = r) (w : World) (hS : S0 M [] w) : Calls Tryd.prog 68 ⟨[.string ⟨⟨s⟩⟩, .int .u8 c_]⟩ w (fun e w' => ∃ v, e = .returned v ∧ v = .int .i64 r ∧ SH M (fpl []) w [] w') := by
 rw [strings_IndexByte] at hm
 have hS0 : SH M (fpl []) w [] w := hS
 generalize hX : fpl [] = X at hS0 ⊢
 clear hS hX
 have hS := hS0
 clear hS0
 refine calls_entryP Tryd.func68 rfl Tryd.ntmps68 rfl fun _ H => ?_
 refine s_reg [] [0, 1] [(0, [], .string ⟨⟨s⟩⟩), (1, [], .int .u8 c_)] [] H (by kernel_rfl) trivial fun _ wd1 H2 hb => ?_
 clear H
 replace hS := hS.below hb
 clear hb
 refine s_reg [(.int .i64 (stringslite_IndexByte s c_))] [4] [(4, [], .int .i64 (stringslite_IndexByte s c_))] [fun wz => RetB Tryd.prog 83 ⟨[.string ⟨⟨s⟩⟩, .int .u8 c_]⟩ (.int .i64 (stringslite_IndexByte s c_)) wz] H2 (by kernel_rfl) ⟨((stringslite_IndexByte_ok _ _).b), trivial⟩ fun _ wd3 H4 hb => ?_
 clear H2
 replace hS := hS.below hb
 clear hb
 refine w_ret ?_
 subst hm
 exact retR1 H4 rfl rfl ⟨_, rfl, rfl, (hS.sel [] rfl)⟩
theorem strings_IndexByte_ok  (s : Str) (c_ : Int) : Ret Tryd.prog 68 ⟨[.string ⟨⟨s⟩⟩, .int .u8 c_]⟩ (.int .i64 (strings_IndexByte s c_)) := retP_of (Tryd.call68 _) (fun w h => strings_IndexByte_w F0   s c_ _ rfl w h)

theorem answer_hex_w  (M : Av) (c_ : Int) (r : Int) (hm : answer_hex c_ = r) (w : World) (hS : S0 M [] w) : Calls Tryd.prog 80 ⟨[.int .u8 c_]⟩ w (fun e w' => ∃ v, e = .returned v ∧ v = .int .i64 r ∧ SH M (fpl []) w [] w') := by
 rw [answer_hex] at hm
 have hS0 : SH M (fpl []) w [] w := hS
 generalize hX : fpl [] = X at hS0 ⊢
 clear hS hX
 have hS := hS0
 clear hS0
 refine calls_entryP Tryd.func80 rfl Tryd.ntmps80 rfl fun _ H => ?_
 refine s_reg [] [0] [(0, [], .int .u8 c_)] [] H (by kernel_rfl) trivial fun _ wd1 H2 hb => ?_
 clear H
 replace hS := hS.below hb
 clear hb
 obtain ⟨y3, hy3, hm⟩ := letE hm
 refine s_reg [(.int .i64 y3)] [2] [(2, [], .int .i64 y3)] [fun wz => RetB Tryd.prog 68 ⟨[.string ⟨⟨[48, 49, 50, 51, 52, 53, 54, 55, 56, 57, 97, 98, 99, 100, 101, 102]⟩⟩, .int .u8 c_]⟩ (.int .i64 y3) wz] H2 (by subst hy3; kernel_rfl) ⟨((by rw [hy3]; exact (strings_IndexByte_ok _ _).b)), trivial⟩ fun _ wd4 H5 hb => ?_
 clear H2
 replace hS := hS.below hb
 clear hb
 refine w_ret ?_
 subst hm
 exact retR1 H5 rfl rfl ⟨_, rfl, rfl, (hS.sel [] rfl)⟩
theorem answer_hex_ok  (c_ : Int) : Ret Tryd.prog 80 ⟨[.int .u8 c_]⟩ (.int .i64 (answer_hex c_)) := retP_of (Tryd.call80 _) (fun w h => answer_hex_w F0   c_ _ rfl w h)

theorem answer_unquote_w  (M : Av) (m : Nat) (s : Str) (r : Str × Int) (hm : answer_unquote m s = some r) (w : World) (hS : S0 M [] w) : Calls Tryd.prog 57 ⟨[.string ⟨⟨s⟩⟩]⟩ w (fun e w' => ∃ v, e = .returned v ∧ v = .tuple ⟨[.string ⟨⟨r.1⟩⟩, .int .i64 r.2]⟩ ∧ SH M (fpl []) w [] w') := by
 rw [answer_unquote] at hm
 have hS0 : SH M (fpl []) w [] w := hS
 generalize hX : fpl [] = X at hS0 ⊢
 clear hS hX
 have hS := hS0
 clear hS0
 refine calls_entryP Tryd.func57 rfl Tryd.ntmps57 rfl fun _ H => ?_
 refine s_reg [] [0] [(0, [], .string ⟨⟨s⟩⟩)] [] H (by kernel_rfl) trivial fun _ wd1 H2 hb => ?_
 clear H
 replace hS := hS.below hb
 clear hb
 refine s_reg [] [0, 4] [(0, [], .string ⟨⟨s⟩⟩), (4, [], .slice none 0 0)] [] H2 (by kernel_rfl) trivial fun _ wd3 H4 hb => ?_
 clear H2
 replace hS := hS.below hb
 clear hb
 obtain ⟨z5, hz, hm_z5⟩ := bindE hm
 refine w_cut (fun a' w' => ∃ s_z5 : Unit, z5 = Sum.inr s_z5 ∧ Fr 97 [] a' ∧ SH M X w [] w') ?_ ?_
 ·replace hm := hz
  refine s_reg [] [0, 4, 5] [(0, [], .string ⟨⟨s⟩⟩), (4, [], .slice none 0 0), (5, [], .int .i64 0)] [] H4 (by kernel_rfl) trivial fun _ wd6 H7 hb => ?_
  clear H4
  replace hS := hS.below hb
  clear hb
  refine w_block ?_
  replace hS : SH M X w [Ent.own 5 (tI .u8) ([] : List Int) (.nil)] _ := hS.addNil 5 (tI .u8)
  refine w_loop (fun kk a' w' => ∃ (v9 : List Int) (v11 : Int) (g10 : Gh), answer_unquote_L1 m s kk v9 v11 = some _ ∧ Fr 97 [(0, [], .string ⟨⟨s⟩⟩), (4, [], .slice g10.a v9.length g10.c), (5, [], .int .i64 v11)] a' ∧ SH M X w [Ent.own 5 (tI .u8) v9 g10] w') ⟨_, ([] : List Int), 0, Gh.nil, hm, FrG.keep (ks := [0, 4, 5]) H7 (by kernel_rfl), hS⟩ ?_
  clear hm H7 hS
  rintro kk _ wd114 ⟨v9, v11, g10, hm, H, hS⟩
  cases kk with
  | zero => exact noneE hm
  | succ kk =>
   rw [answer_unquote_L1] at hm
   refine w_seq ?_
   refine s_reg [] [0, 4, 5, 11] [(0, [], .string ⟨⟨s⟩⟩), (4, [], .slice g10.a v9.length g10.c), (5, [], .int .i64 v11), (11, [], .bool (decide (v11 < (ln s))))] [] H (by kernel_rfl) trivial fun _ wd12 H13 hb => ?_
   clear H
   replace hS := hS.below hb
   clear hb
   refine w_if H13 rfl (fun hc => ?_) (fun hc => ?c113)
   case c113 =>
    replace hm := bF hc hm
    refine w_exit rfl ?_
    obtain rfl := someE hm
    replace hS : SH M X w [] _ := hS.sel [] rfl
    exact ⟨_, rfl, FrG.keep (ks := []) H13 (by kernel_rfl), hS⟩
   replace hm := bT hc hm
   refine w_skip ?_
   obtain ⟨z14, hz, hm_z14⟩ := bindE hm
   refine w_cut (fun a' w' => ∃ s_z14 : Int × (List Int), z14 = Sum.inr s_z14 ∧ ∃ (g109 : Gh), Fr 97 [(0, [], .string ⟨⟨s⟩⟩), (4, [], .slice g109.a s_z14.2.length g109.c), (5, [], .int .i64 s_z14.1)] a' ∧ SH M X w [Ent.own 5 (tI .u8) s_z14.2 g109] w') ?_ ?_
   ·replace hm := hz
    refine w_block ?_
    refine w_block ?_
    obtain ⟨ho15, hm⟩ := chkE hm
    refine s_reg [] [0, 4, 5, 14] [(0, [], .string ⟨⟨s⟩⟩), (4, [], .slice g10.a v9.length g10.c), (5, [], .int .i64 v11), (14, [], .bool ((bat s v11) == 34))] [fun _ => 0 ≤ v11 ∧ v11 < ln s] H13 (by kernel_rfl) ⟨ho15, trivial⟩ fun _ wd16 H17 hb => ?_
    clear H13
    replace hS := hS.below hb
    clear hb
    refine w_if H17 rfl (fun hc => ?c108) (fun hc => ?_)
    case c108 =>
     replace hm := bT hc hm
     refine s_reg [(.string ⟨⟨toB v9⟩⟩)] [2, 3] [(2, [], .string ⟨⟨toB v9⟩⟩), (3, [], .int .i64 (w64 (v11 + 1)))] [fun wz => ∀ w', Below wz.heap.size wz w' → (convert 53 9 (.slice g10.a v9.length g10.c)).run Tryd.prog w' = .ok (.string ⟨⟨toB v9⟩⟩) w'] H17 (by kernel_rfl) ⟨(conv_slG (E := 5) (by kernel_rfl) (by kernel_rfl) (by kernel_rfl) (hS.osl 0 rfl)), trivial⟩ fun _ wd18 H19 hb => ?_
     clear H17
     replace hS := hS.below hb
     clear hb
     refine w_ret ?_
     obtain rfl := someE hm
     have hm := hm_z14
     obtain rfl := someE hm
     have hm := hm_z5
     obtain rfl := someE hm
     exact retR2 H19 rfl rfl rfl ⟨_, rfl, rfl, (hS.sel [] rfl)⟩
    replace hm := bF hc hm
    refine s_reg [] [0, 4, 5, 23] [(0, [], .string ⟨⟨s⟩⟩), (4, [], .slice g10.a v9.length g10.c), (5, [], .int .i64 v11), (23, [], .bool ((bat s v11) != 92))] [fun _ => 0 ≤ v11 ∧ v11 < ln s] H17 (by kernel_rfl) ⟨ho15, trivial⟩ fun _ wd20 H21 hb => ?_
    clear H17
    replace hS := hS.below hb
    clear hb
    refine w_if H21 rfl (fun hc => ?c107) (fun hc => ?_)
    case c107 =>
     replace hm := bT hc hm
     refine wl_start ?_
     refine wl_batch 0 4 [] [0, 5, 28, 31] [(0, [], .string ⟨⟨s⟩⟩), (5, [], .int .i64 v11), (28, [], .slice g10.a v9.length g10.c), (31, [], .int .u8 (bat s v11))] [fun _ => 0 ≤ v11 ∧ v11 < ln s] H21 (by decide) (by kernel_rfl) ⟨ho15, trivial⟩ fun _ wd22 H23 hb => ?_
     clear H21
     replace hS := hS.below hb
     clear hb
     have hd := hS.hand [] [0] rfl rfl
     refine m_stp [32, 0, 5, 28] [(0, [], .string ⟨⟨s⟩⟩), (5, [], .int .i64 v11), (28, [], .slice g10.a v9.length g10.c)] H23 rfl rfl rfl rfl (o_lit (T := (tI .u8)) (E := 5) (zv := .int .u8 0) [.int .u8 (bat s v11)] ([bat s v11] : List Int) [gL []] _ H23 hd rfl (by kernel_rfl) (by kernel_rfl) (by kernel_rfl) (by kernel_rfl) (by kernel_rfl) (by kernel_rfl) (by kernel_rfl) rfl (InnL.cons trivial InnL.nil)) (fun _ => rfl) fun _ wd26 v H27 hq => ?_
     clear H23 hd
     obtain ⟨g24, rfl, hq⟩ := hq
     replace hS : SH M X w [Ent.own 5 (tI .u8) ([bat s v11] : List Int) g24, Ent.own 5 (tI .u8) v9 g10] _ := hS.join [] [0] rfl rfl hq
     clear hq
     obtain ⟨ho28, hm⟩ := chkE hm
     obtain ⟨q29, hq29, hm⟩ := letE hm
     have hd := hS.hand [1, 0] [] rfl rfl
     refine m_stp [33, 0, 5] [(0, [], .string ⟨⟨s⟩⟩), (5, [], .int .i64 v11)] H27 rfl rfl rfl rfl (o_app2 (T := (tI .u8)) (zv := .int .u8 0) (g1 := g10) (g2 := g24) (l1 := v9) (l2 := ([bat s v11] : List Int)) q29 hq29.symm H27 hd rfl rfl rfl rfl rfl rfl rfl (by kernel_rfl) (by kernel_rfl) rfl rfl ho28) (fun _ => rfl) fun _ wd30 v H31 hq => ?_
     clear H27 hd
     obtain ⟨g32, rfl, hq⟩ := hq
     replace hS : SH M X w [Ent.own 5 (tI .u8) q29 g32, Ent.own 5 (tI .u8) ([bat s v11] : List Int) g24] _ := hS.join [1, 0] [] rfl rfl hq
     clear hq
     refine wl_batch 6 7 [] [0, 4, 5] [(0, [], .string ⟨⟨s⟩⟩), (4, [], .slice g32.a q29.length g32.c), (5, [], .int .i64 v11)] [] H31 (by decide) (by kernel_rfl) trivial fun _ wd33 H34 hb => ?_
     clear H31
     replace hS := hS.below hb
     clear hb
     refine wl_end rfl ?_
     replace hS : SH M X w [Ent.own 5 (tI .u8) q29 g32] _ := hS.sel [0] rfl
     obtain rfl := someE hm
     exact ⟨_, rfl, g32, FrG.keep (ks := [0, 4, 5]) H34 (by kernel_rfl), hS⟩
    replace hm := bF hc hm
    obtain ⟨ho35, hm⟩ := chkE hm
    obtain ⟨y36, hy36, hm⟩ := bindE hm
    refine s_reg [(.bool y36)] [0, 4, 5, 34] [(0, [], .string ⟨⟨s⟩⟩), (4, [], .slice g10.a v9.length g10.c), (5, [], .int .i64 v11), (34, [], .bool y36)] [fun _ => 0 ≤ v11 ∧ v11 ≤ ln s, fun wz => RetB Tryd.prog 79 ⟨[.string ⟨⟨sub s v11 (ln s)⟩⟩, .string ⟨⟨[92, 110]⟩⟩]⟩ (.bool y36) wz] H21 (by kernel_rfl) ⟨ho35, ((strings_HasPrefix_ok _ _ _ hy36).b), trivial⟩ fun _ wd37 H38 hb => ?_
    clear H21
    replace hS := hS.below hb
    clear hb
    refine w_if H38 rfl (fun hc => ?c106) (fun hc => ?_)
    case c106 =>
     replace hm := bT hc hm
     refine w_seq ?_
     refine wl_start ?_
     refine wl_batch 0 1 [] [0, 5, 39] [(0, [], .string ⟨⟨s⟩⟩), (5, [], .int .i64 v11), (39, [], .slice g10.a v9.length g10.c)] [] H38 (by decide) (by kernel_rfl) trivial fun _ wd39 H40 hb => ?_
     clear H38
     replace hS := hS.below hb
     clear hb
     have hd := hS.hand [] [0] rfl rfl
     refine m_stp [40, 0, 5, 39] [(0, [], .string ⟨⟨s⟩⟩), (5, [], .int .i64 v11), (39, [], .slice g10.a v9.length g10.c)] H40 rfl rfl rfl rfl (o_lit (T := (tI .u8)) (E := 5) (zv := .int .u8 0) [.int .u8 10] ([10] : List Int) [gL []] _ H40 hd rfl (by kernel_rfl) (by kernel_rfl) (by kernel_rfl) (by kernel_rfl) (by kernel_rfl) (by kernel_rfl) (by kernel_rfl) rfl (InnL.cons trivial InnL.nil)) (fun _ => rfl) fun _ wd43 v H44 hq => ?_
     clear H40 hd
     obtain ⟨g41, rfl, hq⟩ := hq
     replace hS : SH M X w [Ent.own 5 (tI .u8) ([10] : List Int) g41, Ent.own 5 (tI .u8) v9 g10] _ := hS.join [] [0] rfl rfl hq
     clear hq
     obtain ⟨ho45, hm⟩ := chkE hm
     obtain ⟨q46, hq46, hm⟩ := letE hm
     have hd := hS.hand [1, 0] [] rfl rfl
     refine m_stp [41, 0, 5] [(0, [], .string ⟨⟨s⟩⟩), (5, [], .int .i64 v11)] H44 rfl rfl rfl rfl (o_app2 (T := (tI .u8)) (zv := .int .u8 0) (g1 := g10) (g2 := g41) (l1 := v9) (l2 := ([10] : List Int)) q46 hq46.symm H44 hd rfl rfl rfl rfl rfl rfl rfl (by kernel_rfl) (by kernel_rfl) rfl rfl ho45) (fun _ => rfl) fun _ wd47 v H48 hq => ?_
     clear H44 hd
     obtain ⟨g49, rfl, hq⟩ := hq
     replace hS : SH M X w [Ent.own 5 (tI .u8) q46 g49, Ent.own 5 (tI .u8) ([10] : List Int) g41] _ := hS.join [1, 0] [] rfl rfl hq
     clear hq
     refine wl_batch 3 4 [] [0, 4, 5] [(0, [], .string ⟨⟨s⟩⟩), (4, [], .slice g49.a q46.length g49.c), (5, [], .int .i64 v11)] [] H48 (by decide) (by kernel_rfl) trivial fun _ wd50 H51 hb => ?_
     clear H48
     replace hS := hS.below hb
     clear hb
     refine wl_end rfl ?_
     replace hS : SH M X w [Ent.own 5 (tI .u8) q46 g49] _ := hS.sel [0] rfl
     refine w_reg [] [0, 4, 5] [(0, [], .string ⟨⟨s⟩⟩), (4, [], .slice g49.a q46.length g49.c), (5, [], .int .i64 (w64 (v11 + 1)))] [] H51 (by kernel_rfl) trivial fun _ wd52 H53 hb => ?_
     clear H51
     replace hS := hS.below hb
     clear hb
     obtain rfl := someE hm
     exact ⟨_, rfl, g49, FrG.keep (ks := [0, 4, 5]) H53 (by kernel_rfl), hS⟩
    replace hm := bF hc hm
    obtain ⟨y54, hy54, hm⟩ := bindE hm
    obtain ⟨x55, hx55, hm⟩ := letE hm
    refine s_reg [(.bool y54)] [0, 4, 5, 44] [(0, [], .string ⟨⟨s⟩⟩), (4, [], .slice g10.a v9.length g10.c), (5, [], .int .i64 v11), (44, [], .bool x55)] [fun _ => 0 ≤ v11 ∧ v11 ≤ ln s, fun wz => RetB Tryd.prog 79 ⟨[.string ⟨⟨sub s v11 (ln s)⟩⟩, .string ⟨⟨[92, 120]⟩⟩]⟩ (.bool y54) wz] H38 (by subst hx55; kernel_rfl) ⟨ho35, ((strings_HasPrefix_ok _ _ _ hy54).b), trivial⟩ fun _ wd56 H57 hb => ?_
    clear H38
    replace hS := hS.below hb
    clear hb
    refine w_if H57 rfl (fun hc => ?_) (fun hc => ?c105)
    case c105 =>
     replace hm := bF hc hm
     refine s_reg [] [0, 4, 5, 82] [(0, [], .string ⟨⟨s⟩⟩), (4, [], .slice g10.a v9.length g10.c), (5, [], .int .i64 v11), (82, [], .bool (decide ((w64 (v11 + 1)) < (ln s))))] [] H57 (by kernel_rfl) trivial fun _ wd86 H87 hb => ?_
     clear H57
     replace hS := hS.below hb
     clear hb
     refine w_if H87 rfl (fun hc => ?_) (fun hc => ?c104)
     case c104 =>
      replace hm := bF hc hm
      refine w_skip ?_
      obtain rfl := someE hm
      exact ⟨_, rfl, g10, FrG.keep (ks := [0, 4, 5]) H87 (by kernel_rfl), hS⟩
     replace hm := bT hc hm
     refine w_seq ?_
     refine wl_start ?_
     obtain ⟨ho88, hm⟩ := chkE hm
     refine wl_batch 0 5 [] [0, 5, 88, 92] [(0, [], .string ⟨⟨s⟩⟩), (5, [], .int .i64 v11), (88, [], .slice g10.a v9.length g10.c), (92, [], .int .u8 (bat s (w64 (v11 + 1))))] [fun _ => 0 ≤ (w64 (v11 + 1)) ∧ (w64 (v11 + 1)) < ln s] H87 (by decide) (by kernel_rfl) ⟨ho88, trivial⟩ fun _ wd89 H90 hb => ?_
     clear H87
     replace hS := hS.below hb
     clear hb
     have hd := hS.hand [] [0] rfl rfl
     refine m_stp [93, 0, 5, 88] [(0, [], .string ⟨⟨s⟩⟩), (5, [], .int .i64 v11), (88, [], .slice g10.a v9.length g10.c)] H90 rfl rfl rfl rfl (o_lit (T := (tI .u8)) (E := 5) (zv := .int .u8 0) [.int .u8 (bat s (w64 (v11 + 1)))] ([bat s (w64 (v11 + 1))] : List Int) [gL []] _ H90 hd rfl (by kernel_rfl) (by kernel_rfl) (by kernel_rfl) (by kernel_rfl) (by kernel_rfl) (by kernel_rfl) (by kernel_rfl) rfl (InnL.cons trivial InnL.nil)) (fun _ => rfl) fun _ wd93 v H94 hq => ?_
     clear H90 hd
     obtain ⟨g91, rfl, hq⟩ := hq
     replace hS : SH M X w [Ent.own 5 (tI .u8) ([bat s (w64 (v11 + 1))] : List Int) g91, Ent.own 5 (tI .u8) v9 g10] _ := hS.join [] [0] rfl rfl hq
     clear hq
     obtain ⟨ho95, hm⟩ := chkE hm
     obtain ⟨q96, hq96, hm⟩ := letE hm
     have hd := hS.hand [1, 0] [] rfl rfl
     refine m_stp [94, 0, 5] [(0, [], .string ⟨⟨s⟩⟩), (5, [], .int .i64 v11)] H94 rfl rfl rfl rfl (o_app2 (T := (tI .u8)) (zv := .int .u8 0) (g1 := g10) (g2 := g91) (l1 := v9) (l2 := ([bat s (w64 (v11 + 1))] : List Int)) q96 hq96.symm H94 hd rfl rfl rfl rfl rfl rfl rfl (by kernel_rfl) (by kernel_rfl) rfl rfl ho95) (fun _ => rfl) fun _ wd97 v H98 hq => ?_
     clear H94 hd
     obtain ⟨g99, rfl, hq⟩ := hq
     replace hS : SH M X w [Ent.own 5 (tI .u8) q96 g99, Ent.own 5 (tI .u8) ([bat s (w64 (v11 + 1))] : List Int) g91] _ := hS.join [1, 0] [] rfl rfl hq
     clear hq
     refine wl_batch 7 8 [] [0, 4, 5] [(0, [], .string ⟨⟨s⟩⟩), (4, [], .slice g99.a q96.length g99.c), (5, [], .int .i64 v11)] [] H98 (by decide) (by kernel_rfl) trivial fun _ wd100 H101 hb => ?_
     clear H98
     replace hS := hS.below hb
     clear hb
     refine wl_end rfl ?_
     replace hS : SH M X w [Ent.own 5 (tI .u8) q96 g99] _ := hS.sel [0] rfl
     refine w_reg [] [0, 4, 5] [(0, [], .string ⟨⟨s⟩⟩), (4, [], .slice g99.a q96.length g99.c), (5, [], .int .i64 (w64 (v11 + 1)))] [] H101 (by kernel_rfl) trivial fun _ wd102 H103 hb => ?_
     clear H101
     replace hS := hS.below hb
     clear hb
     obtain rfl := someE hm
     exact ⟨_, rfl, g99, FrG.keep (ks := [0, 4, 5]) H103 (by kernel_rfl), hS⟩
    replace hm := bT hc hm
    obtain ⟨ho58, hm⟩ := chkE hm
    obtain ⟨ho59, hm⟩ := chkE hm
    refine s_draw [(.int .i64 (answer_hex (bat s (w64 (v11 + 2))))), (.int .i64 (answer_hex (bat s (w64 (v11 + 3)))))] [0, 4, 5, 6, 7] [(0, [], .string ⟨⟨s⟩⟩), (4, [], .slice g10.a v9.length g10.c), (5, [], .int .i64 v11), (6, [], .int .i64 (answer_hex (bat s (w64 (v11 + 2))))), (7, [], .int .i64 (answer_hex (bat s (w64 (v11 + 3)))))] [fun _ => 0 ≤ (w64 (v11 + 2)) ∧ (w64 (v11 + 2)) < ln s, fun wz => RetB Tryd.prog 80 ⟨[.int .u8 (bat s (w64 (v11 + 2)))]⟩ (.int .i64 (answer_hex (bat s (w64 (v11 + 2))))) wz, fun _ => 0 ≤ (w64 (v11 + 3)) ∧ (w64 (v11 + 3)) < ln s, fun wz => RetB Tryd.prog 80 ⟨[.int .u8 (bat s (w64 (v11 + 3)))]⟩ (.int .i64 (answer_hex (bat s (w64 (v11 + 3))))) wz] H57 (by kernel_rfl) (by kernel_rfl) (by kernel_rfl) ⟨ho58, ((answer_hex_ok _).b), ho59, ((answer_hex_ok _).b), trivial⟩ fun _ wd60 H61 hb => ?_
    clear H57
    replace hS := hS.below hb
    clear hb
    refine w_seq ?_
    obtain ⟨x62, hx62, hm⟩ := letE hm
    obtain ⟨x63, hx63, hm⟩ := letE hm
    refine s_reg [] [0, 4, 5, 6, 7, 71] [(0, [], .string ⟨⟨s⟩⟩), (4, [], .slice g10.a v9.length g10.c), (5, [], .int .i64 v11), (6, [], .int .i64 (answer_hex (bat s (w64 (v11 + 2))))), (7, [], .int .i64 (answer_hex (bat s (w64 (v11 + 3))))), (71, [], .bool x63)] [] H61 (by subst hx62 hx63; kernel_rfl) trivial fun _ wd64 H65 hb => ?_
    clear H61
    replace hS := hS.below hb
    clear hb
    refine w_if H65 rfl (fun hc => ?c85) (fun hc => ?_)
    case c85 =>
     replace hm := bT hc hm
     refine s_reg [] [2, 3] [(2, [], .string ⟨⟨[]⟩⟩), (3, [], .int .i64 0)] [] H65 (by kernel_rfl) trivial fun _ wd66 H67 hb => ?_
     clear H65
     replace hS := hS.below hb
     clear hb
     refine w_ret ?_
     obtain rfl := someE hm
     have hm := hm_z14
     obtain rfl := someE hm
     have hm := hm_z5
     obtain rfl := someE hm
     exact retR2 H67 rfl rfl rfl ⟨_, rfl, rfl, (hS.sel [] rfl)⟩
    replace hm := bF hc hm
    refine w_skip ?_
    refine w_seq ?_
    refine wl_start ?_
    obtain ⟨x68, hx68, hm⟩ := letE hm
    obtain ⟨x69, hx69, hm⟩ := letE hm
    refine wl_batch 0 6 [] [0, 5, 72, 77] [(0, [], .string ⟨⟨s⟩⟩), (5, [], .int .i64 v11), (72, [], .slice g10.a v9.length g10.c), (77, [], .int .u8 (wu8 x69))] [fun _ => (0 : Int) ≤ 4] H65 (by decide) (by subst hx68 hx69; kernel_rfl) ⟨(by show (0 : Int) ≤ 4; decide), trivial⟩ fun _ wd70 H71 hb => ?_
    clear H65
    replace hS := hS.below hb
    clear hb
    have hd := hS.hand [] [0] rfl rfl
    refine m_stp [78, 0, 5, 72] [(0, [], .string ⟨⟨s⟩⟩), (5, [], .int .i64 v11), (72, [], .slice g10.a v9.length g10.c)] H71 rfl rfl rfl rfl (o_lit (T := (tI .u8)) (E := 5) (zv := .int .u8 0) [.int .u8 (wu8 x69)] ([wu8 x69] : List Int) [gL []] _ H71 hd rfl (by kernel_rfl) (by kernel_rfl) (by kernel_rfl) (by kernel_rfl) (by kernel_rfl) (by kernel_rfl) (by kernel_rfl) rfl (InnL.cons trivial InnL.nil)) (fun _ => rfl) fun _ wd74 v H75 hq => ?_
    clear H71 hd
    obtain ⟨g72, rfl, hq⟩ := hq
    replace hS : SH M X w [Ent.own 5 (tI .u8) ([wu8 x69] : List Int) g72, Ent.own 5 (tI .u8) v9 g10] _ := hS.join [] [0] rfl rfl hq
    clear hq
    obtain ⟨ho76, hm⟩ := chkE hm
    obtain ⟨q77, hq77, hm⟩ := letE hm
    have hd := hS.hand [1, 0] [] rfl rfl
    refine m_stp [79, 0, 5] [(0, [], .string ⟨⟨s⟩⟩), (5, [], .int .i64 v11)] H75 rfl rfl rfl rfl (o_app2 (T := (tI .u8)) (zv := .int .u8 0) (g1 := g10) (g2 := g72) (l1 := v9) (l2 := ([wu8 x69] : List Int)) q77 hq77.symm H75 hd rfl rfl rfl rfl rfl rfl rfl (by kernel_rfl) (by kernel_rfl) rfl rfl ho76) (fun _ => rfl) fun _ wd78 v H79 hq => ?_
    clear H75 hd
    obtain ⟨g80, rfl, hq⟩ := hq
    replace hS : SH M X w [Ent.own 5 (tI .u8) q77 g80, Ent.own 5 (tI .u8) ([wu8 x69] : List Int) g72] _ := hS.join [1, 0] [] rfl rfl hq
    clear hq
    refine wl_batch 8 9 [] [0, 4, 5] [(0, [], .string ⟨⟨s⟩⟩), (4, [], .slice g80.a q77.length g80.c), (5, [], .int .i64 v11)] [] H79 (by decide) (by kernel_rfl) trivial fun _ wd81 H82 hb => ?_
    clear H79
    replace hS := hS.below hb
    clear hb
    refine wl_end rfl ?_
    replace hS : SH M X w [Ent.own 5 (tI .u8) q77 g80] _ := hS.sel [0] rfl
    refine w_reg [] [0, 4, 5] [(0, [], .string ⟨⟨s⟩⟩), (4, [], .slice g80.a q77.length g80.c), (5, [], .int .i64 (w64 (v11 + 3)))] [] H82 (by kernel_rfl) trivial fun _ wd83 H84 hb => ?_
    clear H82
    replace hS := hS.below hb
    clear hb
    obtain rfl := someE hm
    exact ⟨_, rfl, g80, FrG.keep (ks := [0, 4, 5]) H84 (by kernel_rfl), hS⟩
   ·rintro _ wd112 ⟨s_z14, hz, g109, H, hS⟩
    subst hz
    replace hm := sumR hm_z14
    refine w_reg [] [0, 4, 5] [(0, [], .string ⟨⟨s⟩⟩), (4, [], .slice g109.a s_z14.2.length g109.c), (5, [], .int .i64 (w64 (s_z14.1 + 1)))] [] H (by kernel_rfl) trivial fun _ wd110 H111 hb => ?_
    clear H
    replace hS := hS.below hb
    clear hb
    exact ⟨_, Nat.lt_succ_self _, s_z14.2, w64 (s_z14.1 + 1), g109, hm, FrG.keep (ks := [0, 4, 5]) H111 (by kernel_rfl), hS⟩
 ·rintro _ wd117 ⟨s_z5, hz, H, hS⟩
  subst hz
  replace hm := sumR hm_z5
  refine s_reg [] [2, 3] [(2, [], .string ⟨⟨[]⟩⟩), (3, [], .int .i64 0)] [] H (by kernel_rfl) trivial fun _ wd115 H116 hb => ?_
  clear H
  replace hS := hS.below hb
  clear hb
  refine w_ret ?_
  obtain rfl := someE hm
  exact retR2 H116 rfl rfl rfl ⟨_, rfl, rfl, (hS.sel [] rfl)⟩
theorem answer_unquote_ok  (m : Nat) (s : Str) (r : Str × Int) (hm : answer_unquote m s = some r) : Ret Tryd.prog 57 ⟨[.string ⟨⟨s⟩⟩]⟩ (.tuple ⟨[.string ⟨⟨r.1⟩⟩, .int .i64 r.2]⟩) := retP_of (Tryd.call57 _) (fun w h => answer_unquote_w F0 m   s r hm w h)

theorem answer_read_4_w {b_u0 : Nat} {b_u0_c0 : Nat} {b_u2 : Nat} {g_u2_Texts : Gh} {g_u2_Numbers : Gh} (M : Av) (m : Nat) (u0_c0 : Str) (u2_Err : Int) (u2_Num : Int) (u2_Texts : List Str) (u2_Numbers : List Int) (r : Bool × Str × (List Str)) (hm : answer_read_4 m u0_c0 u2_Err u2_Num u2_Texts u2_Numbers = some r) (w : World) (hS : S0 M [Ent.blk b_u0 [.func (.func 50) ⟨[]⟩ ⟨[.pointer (some ⟨b_u0_c0, 0, none⟩)]⟩], Ent.blk b_u0_c0 [.string ⟨⟨u0_c0⟩⟩], Ent.blk b_u2 [.int .i64 u2_Err, .int .i64 u2_Num, .slice g_u2_Texts.a u2_Texts.length g_u2_Texts.c, .slice g_u2_Numbers.a u2_Numbers.length g_u2_Numbers.c], Ent.own 9 tS u2_Texts g_u2_Texts, Ent.im (tI .i64) u2_Numbers g_u2_Numbers] w) : Calls Tryd.prog 56 ⟨[.pointer (some ⟨b_u0, 0, none⟩), .pointer (some ⟨b_u0_c0, 0, none⟩), .pointer (some ⟨b_u2, 0, none⟩)]⟩ w (fun e w' => ∃ v, e = .returned v ∧ ∃ (g901 : Gh), v = .bool r.1 ∧ SH M (fpl [Ent.blk b_u0 [.func (.func 50) ⟨[]⟩ ⟨[.pointer (some ⟨b_u0_c0, 0, none⟩)]⟩], Ent.blk b_u0_c0 [.string ⟨⟨u0_c0⟩⟩], Ent.blk b_u2 [.int .i64 u2_Err, .int .i64 u2_Num, .slice g_u2_Texts.a u2_Texts.length g_u2_Texts.c, .slice g_u2_Numbers.a u2_Numbers.length g_u2_Numbers.c], Ent.own 9 tS u2_Texts g_u2_Texts, Ent.im (tI .i64) u2_Numbers g_u2_Numbers]) w [Ent.blk b_u0 [.func (.func 50) ⟨[]⟩ ⟨[.pointer (some ⟨b_u0_c0, 0, none⟩)]⟩], Ent.blk b_u0_c0 [.string ⟨⟨r.2.1⟩⟩], Ent.blk b_u2 [.int .i64 u2_Err, .int .i64 u2_Num, .slice g901.a r.2.2.length g901.c, .slice g_u2_Numbers.a u2_Numbers.length g_u2_Numbers.c], Ent.own 9 tS r.2.2 g901] w') := by
 rw [answer_read_4] at hm
 have hS0 : SH M (fpl [Ent.blk b_u0 [.func (.func 50) ⟨[]⟩ ⟨[.pointer (some ⟨b_u0_c0, 0, none⟩)]⟩], Ent.blk b_u0_c0 [.string ⟨⟨u0_c0⟩⟩], Ent.blk b_u2 [.int .i64 u2_Err, .int .i64 u2_Num, .slice g_u2_Texts.a u2_Texts.length g_u2_Texts.c, .slice g_u2_Numbers.a u2_Numbers.length g_u2_Numbers.c], Ent.own 9 tS u2_Texts g_u2_Texts, Ent.im (tI .i64) u2_Numbers g_u2_Numbers]) w [Ent.blk b_u0 [.func (.func 50) ⟨[]⟩ ⟨[.pointer (some ⟨b_u0_c0, 0, none⟩)]⟩], Ent.blk b_u0_c0 [.string ⟨⟨u0_c0⟩⟩], Ent.blk b_u2 [.int .i64 u2_Err, .int .i64 u2_Num, .slice g_u2_Texts.a u2_Texts.length g_u2_Texts.c, .slice g_u2_Numbers.a u2_Numbers.length g_u2_Numbers.c], Ent.own 9 tS u2_Texts g_u2_Texts, Ent.im (tI .i64) u2_Numbers g_u2_Numbers] w := hS
 generalize hX : fpl [Ent.blk b_u0 [.func (.func 50) ⟨[]⟩ ⟨[.pointer (some ⟨b_u0_c0, 0, none⟩)]⟩], Ent.blk b_u0_c0 [.string ⟨⟨u0_c0⟩⟩], Ent.blk b_u2 [.int .i64 u2_Err, .int .i64 u2_Num, .slice g_u2_Texts.a u2_Texts.length g_u2_Texts.c, .slice g_u2_Numbers.a u2_Numbers.length g_u2_Numbers.c], Ent.own 9 tS u2_Texts g_u2_Texts, Ent.im (tI .i64) u2_Numbers g_u2_Numbers] = X at hS0 ⊢
 clear hS hX
 have hS := hS0
 clear hS0
 refine calls_entryP Tryd.func56 rfl Tryd.ntmps56 rfl fun _ H => ?_
 refine s_reg [] [0, 1, 2] [(0, [], .pointer (some ⟨b_u0, 0, none⟩)), (1, [], .pointer (some ⟨b_u0_c0, 0, none⟩)), (2, [], .pointer (some ⟨b_u2, 0, none⟩))] [] H (by kernel_rfl) trivial fun _ wd1 H2 hb => ?_
 clear H
 replace hS := hS.below hb
 clear hb
 refine w_seq ?_
 refine w_seq ?_
 refine wl_start ?_
 refine wl_batch 0 1 [(.func (.func 50) ⟨[]⟩ ⟨[.pointer (some ⟨b_u0_c0, 0, none⟩)]⟩)] [1, 2, 6] [(1, [], .pointer (some ⟨b_u0_c0, 0, none⟩)), (2, [], .pointer (some ⟨b_u2, 0, none⟩)), (6, [], .func (.func 50) ⟨[]⟩ ⟨[.pointer (some ⟨b_u0_c0, 0, none⟩)]⟩)] [fun wz => V.at1 ⟨b_u0, 0, none⟩ (.func (.func 50) ⟨[]⟩ ⟨[.pointer (some ⟨b_u0_c0, 0, none⟩)]⟩) wz] H2 (by decide) (by kernel_rfl) ⟨((hS.bk 0 rfl).at1 rfl), trivial⟩ fun _ wd3 H4 hb => ?_
 clear H2
 replace hS := hS.below hb
 clear hb
 obtain ⟨y5, hy5, hm⟩ := bindE hm
 have hd := hS.hand [1] [0, 2, 3, 4] rfl rfl
 refine m_stp [7, 1, 2] [(1, [], .pointer (some ⟨b_u0_c0, 0, none⟩)), (2, [], .pointer (some ⟨b_u2, 0, none⟩))] H4 rfl rfl rfl rfl (o_callx H4 rfl rfl (answer_read_1_ok (b_u0 := b_u0_c0) _ _ _ hy5 _ _ hd)) (fun _ => rfl) fun _ wd6 v H7 hq => ?_
 clear H4 hd
 obtain ⟨rfl, hq⟩ := hq
 replace hS : SH M X w [Ent.blk b_u0_c0 [.string ⟨⟨y5.2⟩⟩], Ent.blk b_u0 [.func (.func 50) ⟨[]⟩ ⟨[.pointer (some ⟨b_u0_c0, 0, none⟩)]⟩], Ent.blk b_u2 [.int .i64 u2_Err, .int .i64 u2_Num, .slice g_u2_Texts.a u2_Texts.length g_u2_Texts.c, .slice g_u2_Numbers.a u2_Numbers.length g_u2_Numbers.c], Ent.own 9 tS u2_Texts g_u2_Texts, Ent.im (tI .i64) u2_Numbers g_u2_Numbers] _ := hS.join [1] [0, 2, 3, 4] rfl rfl hq
 clear hq
 refine wl_batch 2 3 [] [1, 2, 8] [(1, [], .pointer (some ⟨b_u0_c0, 0, none⟩)), (2, [], .pointer (some ⟨b_u2, 0, none⟩)), (8, [], .bool (!y5.1))] [] H7 (by decide) (by kernel_rfl) trivial fun _ wd8 H9 hb => ?_
 clear H7
 replace hS := hS.below hb
 clear hb
 refine wl_end rfl ?_
 refine w_if H9 rfl (fun hc => ?c37) (fun hc => ?_)
 case c37 =>
  replace hm := bT hc hm
  refine s_reg [] [3] [(3, [], .bool false)] [] H9 (by kernel_rfl) trivial fun _ wd10 H11 hb => ?_
  clear H9
  replace hS := hS.below hb
  clear hb
  refine w_ret ?_
  obtain rfl := someE hm
  exact retR1 H11 rfl rfl ⟨_, rfl, g_u2_Texts, rfl, (hS.sel [1, 0, 2, 3] rfl)⟩
 replace hm := bF hc hm
 refine w_skip ?_
 obtain ⟨y12, hy12, hm⟩ := bindE hm
 refine s_reg [(.string ⟨⟨y5.2⟩⟩), (.tuple ⟨[.string ⟨⟨y12.1⟩⟩, .int .i64 y12.2]⟩)] [1, 2, 4, 5] [(1, [], .pointer (some ⟨b_u0_c0, 0, none⟩)), (2, [], .pointer (some ⟨b_u2, 0, none⟩)), (4, [], .string ⟨⟨y12.1⟩⟩), (5, [], .int .i64 y12.2)] [fun wz => V.at1 ⟨b_u0_c0, 0, none⟩ (.string ⟨⟨y5.2⟩⟩) wz, fun wz => RetB Tryd.prog 57 ⟨[.string ⟨⟨y5.2⟩⟩]⟩ (.tuple ⟨[.string ⟨⟨y12.1⟩⟩, .int .i64 y12.2]⟩) wz] H9 (by kernel_rfl) ⟨((hS.bk 0 rfl).at1 rfl), ((answer_unquote_ok m _ _ hy12).b), trivial⟩ fun _ wd13 H14 hb => ?_
 clear H9
 replace hS := hS.below hb
 clear hb
 refine w_seq ?_
 refine wl_start ?_
 refine wl_batch 0 3 [(.slice g_u2_Texts.a u2_Texts.length g_u2_Texts.c)] [1, 2, 5, 15, 16] [(1, [], .pointer (some ⟨b_u0_c0, 0, none⟩)), (2, [], .pointer (some ⟨b_u2, 0, none⟩)), (5, [], .int .i64 y12.2), (15, [], .slice g_u2_Texts.a u2_Texts.length g_u2_Texts.c), (16, [], .string ⟨⟨y12.1⟩⟩)] [fun wz => V.at1 ⟨b_u2, 2, none⟩ (.slice g_u2_Texts.a u2_Texts.length g_u2_Texts.c) wz] H14 (by decide) (by kernel_rfl) ⟨((hS.bk 2 rfl).at1 rfl), trivial⟩ fun _ wd15 H16 hb => ?_
 clear H14
 replace hS := hS.below hb
 clear hb
 have hd := hS.hand [] [0, 1, 2, 3, 4] rfl rfl
 refine m_stp [17, 1, 2, 5, 15] [(1, [], .pointer (some ⟨b_u0_c0, 0, none⟩)), (2, [], .pointer (some ⟨b_u2, 0, none⟩)), (5, [], .int .i64 y12.2), (15, [], .slice g_u2_Texts.a u2_Texts.length g_u2_Texts.c)] H16 rfl rfl rfl rfl (o_lit (T := tS) (E := 9) (zv := .string ⟨⟨[]⟩⟩) [.string ⟨⟨y12.1⟩⟩] ([y12.1] : List Str) [gL []] _ H16 hd rfl (by kernel_rfl) (by kernel_rfl) (by kernel_rfl) (by kernel_rfl) (by kernel_rfl) (by kernel_rfl) (by kernel_rfl) rfl (InnL.cons trivial InnL.nil)) (fun _ => rfl) fun _ wd19 v H20 hq => ?_
 clear H16 hd
 obtain ⟨g17, rfl, hq⟩ := hq
 replace hS : SH M X w [Ent.own 9 tS ([y12.1] : List Str) g17, Ent.blk b_u0_c0 [.string ⟨⟨y5.2⟩⟩], Ent.blk b_u0 [.func (.func 50) ⟨[]⟩ ⟨[.pointer (some ⟨b_u0_c0, 0, none⟩)]⟩], Ent.blk b_u2 [.int .i64 u2_Err, .int .i64 u2_Num, .slice g_u2_Texts.a u2_Texts.length g_u2_Texts.c, .slice g_u2_Numbers.a u2_Numbers.length g_u2_Numbers.c], Ent.own 9 tS u2_Texts g_u2_Texts, Ent.im (tI .i64) u2_Numbers g_u2_Numbers] _ := hS.join [] [0, 1, 2, 3, 4] rfl rfl hq
 clear hq
 obtain ⟨ho21, hm⟩ := chkE hm
 obtain ⟨q22, hq22, hm⟩ := letE hm
 have hd := hS.hand [4, 0] [1, 2, 3, 5] rfl rfl
 refine m_stp [18, 1, 2, 5] [(1, [], .pointer (some ⟨b_u0_c0, 0, none⟩)), (2, [], .pointer (some ⟨b_u2, 0, none⟩)), (5, [], .int .i64 y12.2)] H20 rfl rfl rfl rfl (o_app2 (T := tS) (zv := .string ⟨⟨[]⟩⟩) (g1 := g_u2_Texts) (g2 := g17) (l1 := u2_Texts) (l2 := ([y12.1] : List Str)) q22 hq22.symm H20 hd rfl rfl rfl rfl rfl rfl rfl (by kernel_rfl) (by kernel_rfl) rfl rfl ho21) (fun _ => rfl) fun _ wd23 v H24 hq => ?_
 clear H20 hd
 obtain ⟨g25, rfl, hq⟩ := hq
 replace hS : SH M X w [Ent.own 9 tS q22 g25, Ent.own 9 tS ([y12.1] : List Str) g17, Ent.blk b_u0_c0 [.string ⟨⟨y5.2⟩⟩], Ent.blk b_u0 [.func (.func 50) ⟨[]⟩ ⟨[.pointer (some ⟨b_u0_c0, 0, none⟩)]⟩], Ent.blk b_u2 [.int .i64 u2_Err, .int .i64 u2_Num, .slice g_u2_Texts.a u2_Texts.length g_u2_Texts.c, .slice g_u2_Numbers.a u2_Numbers.length g_u2_Numbers.c], Ent.im (tI .i64) u2_Numbers g_u2_Numbers] _ := hS.join [4, 0] [1, 2, 3, 5] rfl rfl hq
 clear hq
 refine wl_batch 5 6 [] [1, 5, 18, 19] [(1, [], .pointer (some ⟨b_u0_c0, 0, none⟩)), (5, [], .int .i64 y12.2), (18, [], .slice g25.a q22.length g25.c), (19, [], .pointer (some ⟨b_u2, 2, none⟩))] [] H24 (by decide) (by kernel_rfl) trivial fun _ wd26 H27 hb => ?_
 clear H24
 replace hS := hS.below hb
 clear hb
 have hd := hS.hand [4] [0, 1, 2, 3, 5] rfl rfl
 refine m_stp0 [1, 5] [(1, [], .pointer (some ⟨b_u0_c0, 0, none⟩)), (5, [], .int .i64 y12.2)] H27 rfl rfl rfl (o_store [.int .i64 u2_Err, .int .i64 u2_Num, .slice g25.a q22.length g25.c, .slice g_u2_Numbers.a u2_Numbers.length g_u2_Numbers.c] H27 hd rfl rfl (by kernel_rfl) rfl rfl rfl) rfl fun _ wd28 H29 hq => ?_
 clear H27 hd
 obtain ⟨_, hq⟩ := hq
 replace hS : SH M X w [Ent.blk b_u2 [.int .i64 u2_Err, .int .i64 u2_Num, .slice g25.a q22.length g25.c, .slice g_u2_Numbers.a u2_Numbers.length g_u2_Numbers.c], Ent.own 9 tS q22 g25, Ent.own 9 tS ([y12.1] : List Str) g17, Ent.blk b_u0_c0 [.string ⟨⟨y5.2⟩⟩], Ent.blk b_u0 [.func (.func 50) ⟨[]⟩ ⟨[.pointer (some ⟨b_u0_c0, 0, none⟩)]⟩], Ent.im (tI .i64) u2_Numbers g_u2_Numbers] _ := hS.join [4] [0, 1, 2, 3, 5] rfl rfl hq
 clear hq
 refine wl_end rfl ?_
 replace hS : SH M X w [Ent.blk b_u2 [.int .i64 u2_Err, .int .i64 u2_Num, .slice g25.a q22.length g25.c, .slice g_u2_Numbers.a u2_Numbers.length g_u2_Numbers.c], Ent.own 9 tS q22 g25, Ent.blk b_u0_c0 [.string ⟨⟨y5.2⟩⟩], Ent.blk b_u0 [.func (.func 50) ⟨[]⟩ ⟨[.pointer (some ⟨b_u0_c0, 0, none⟩)]⟩], Ent.im (tI .i64) u2_Numbers g_u2_Numbers] _ := hS.sel [0, 1, 3, 4, 5] rfl
 refine w_seq ?_
 refine wl_start ?_
 obtain ⟨ho30, hm⟩ := chkE hm
 refine wl_batch 0 3 [(.string ⟨⟨y5.2⟩⟩)] [1, 5, 22] [(1, [], .pointer (some ⟨b_u0_c0, 0, none⟩)), (5, [], .int .i64 y12.2), (22, [], .string ⟨⟨sub y5.2 y12.2 (ln y5.2)⟩⟩)] [fun wz => V.at1 ⟨b_u0_c0, 0, none⟩ (.string ⟨⟨y5.2⟩⟩) wz, fun _ => 0 ≤ y12.2 ∧ y12.2 ≤ ln y5.2] H29 (by decide) (by kernel_rfl) ⟨((hS.bk 2 rfl).at1 rfl), ho30, trivial⟩ fun _ wd31 H32 hb => ?_
 clear H29
 replace hS := hS.below hb
 clear hb
 have hd := hS.hand [2] [0, 1, 3, 4] rfl rfl
 refine m_stp0 [5] [(5, [], .int .i64 y12.2)] H32 rfl rfl rfl (o_store [.string ⟨⟨sub y5.2 y12.2 (ln y5.2)⟩⟩] H32 hd rfl rfl (by kernel_rfl) rfl rfl rfl) rfl fun _ wd33 H34 hq => ?_
 clear H32 hd
 obtain ⟨_, hq⟩ := hq
 replace hS : SH M X w [Ent.blk b_u0_c0 [.string ⟨⟨sub y5.2 y12.2 (ln y5.2)⟩⟩], Ent.blk b_u2 [.int .i64 u2_Err, .int .i64 u2_Num, .slice g25.a q22.length g25.c, .slice g_u2_Numbers.a u2_Numbers.length g_u2_Numbers.c], Ent.own 9 tS q22 g25, Ent.blk b_u0 [.func (.func 50) ⟨[]⟩ ⟨[.pointer (some ⟨b_u0_c0, 0, none⟩)]⟩], Ent.im (tI .i64) u2_Numbers g_u2_Numbers] _ := hS.join [2] [0, 1, 3, 4] rfl rfl hq
 clear hq
 refine wl_end rfl ?_
 refine s_reg [] [3] [(3, [], .bool (decide (0 < y12.2)))] [] H34 (by kernel_rfl) trivial fun _ wd35 H36 hb => ?_
 clear H34
 replace hS := hS.below hb
 clear hb
 refine w_ret ?_
 obtain rfl := someE hm
 exact retR1 H36 rfl rfl ⟨_, rfl, g25, rfl, (hS.sel [3, 0, 1, 2] rfl)⟩
theorem answer_read_4_ok {b_u0 : Nat} {b_u0_c0 : Nat} {b_u2 : Nat} {g_u2_Texts : Gh} {g_u2_Numbers : Gh} (m : Nat) (u0_c0 : Str) (u2_Err : Int) (u2_Num : Int) (u2_Texts : List Str) (u2_Numbers : List Int) (r : Bool × Str × (List Str)) (hm : answer_read_4 m u0_c0 u2_Err u2_Num u2_Texts u2_Numbers = some r) (M : Av) (w : World) (hS : S0 M [Ent.blk b_u0 [.func (.func 50) ⟨[]⟩ ⟨[.pointer (some ⟨b_u0_c0, 0, none⟩)]⟩], Ent.blk b_u0_c0 [.string ⟨⟨u0_c0⟩⟩], Ent.blk b_u2 [.int .i64 u2_Err, .int .i64 u2_Num, .slice g_u2_Texts.a u2_Texts.length g_u2_Texts.c, .slice g_u2_Numbers.a u2_Numbers.length g_u2_Numbers.c], Ent.own 9 tS u2_Texts g_u2_Texts, Ent.im (tI .i64) u2_Numbers g_u2_Numbers] w) : DoesX Tryd.prog 56 ⟨[.pointer (some ⟨b_u0, 0, none⟩), .pointer (some ⟨b_u0_c0, 0, none⟩), .pointer (some ⟨b_u2, 0, none⟩)]⟩ w (fun v w' => ∃ (g901 : Gh), v = .bool r.1 ∧ SH M (fpl [Ent.blk b_u0 [.func (.func 50) ⟨[]⟩ ⟨[.pointer (some ⟨b_u0_c0, 0, none⟩)]⟩], Ent.blk b_u0_c0 [.string ⟨⟨u0_c0⟩⟩], Ent.blk b_u2 [.int .i64 u2_Err, .int .i64 u2_Num, .slice g_u2_Texts.a u2_Texts.length g_u2_Texts.c, .slice g_u2_Numbers.a u2_Numbers.length g_u2_Numbers.c], Ent.own 9 tS u2_Texts g_u2_Texts, Ent.im (tI .i64) u2_Numbers g_u2_Numbers]) w [Ent.blk b_u0 [.func (.func 50) ⟨[]⟩ ⟨[.pointer (some ⟨b_u0_c0, 0, none⟩)]⟩], Ent.blk b_u0_c0 [.string ⟨⟨r.2.1⟩⟩], Ent.blk b_u2 [.int .i64 u2_Err, .int .i64 u2_Num, .slice g901.a r.2.2.length g901.c, .slice g_u2_Numbers.a u2_Numbers.length g_u2_Numbers.c], Ent.own 9 tS r.2.2 g901] w') := ⟨Tryd.call56 _, answer_read_4_w M m   u0_c0 u2_Err u2_Num u2_Texts u2_Numbers r hm w hS⟩

theorem answer_read_3_w {b_one_c0 : Nat} {b_one_c0_c0 : Nat} {b_one_c2 : Nat} {g_one_c2_Texts : Gh} {g_one_c2_Numbers : Gh} (M : Av) (m : Nat) (one_c0_c0 : Str) (one_c2_Err : Int) (one_c2_Num : Int) (one_c2_Texts : List Str) (one_c2_Numbers : List Int) (r : Bool × Str × (List Str)) (hm : answer_read_3 m one_c0_c0 one_c2_Err one_c2_Num one_c2_Texts one_c2_Numbers = some r) (w : World) (hS : S0 M [Ent.blk b_one_c0 [.func (.func 50) ⟨[]⟩ ⟨[.pointer (some ⟨b_one_c0_c0, 0, none⟩)]⟩], Ent.blk b_one_c0_c0 [.string ⟨⟨one_c0_c0⟩⟩], Ent.blk b_one_c2 [.int .i64 one_c2_Err, .int .i64 one_c2_Num, .slice g_one_c2_Texts.a one_c2_Texts.length g_one_c2_Texts.c, .slice g_one_c2_Numbers.a one_c2_Numbers.length g_one_c2_Numbers.c], Ent.own 9 tS one_c2_Texts g_one_c2_Texts, Ent.im (tI .i64) one_c2_Numbers g_one_c2_Numbers] w) : Calls Tryd.prog 55 ⟨[.func (.func 56) ⟨[]⟩ ⟨[.pointer (some ⟨b_one_c0, 0, none⟩), .pointer (some ⟨b_one_c0_c0, 0, none⟩), .pointer (some ⟨b_one_c2, 0, none⟩)]⟩, .pointer (some ⟨b_one_c0, 0, none⟩)]⟩ w (fun e w' => ∃ v, e = .returned v ∧ ∃ (g901 : Gh), v = .bool r.1 ∧ SH M (fpl [Ent.blk b_one_c0 [.func (.func 50) ⟨[]⟩ ⟨[.pointer (some ⟨b_one_c0_c0, 0, none⟩)]⟩], Ent.blk b_one_c0_c0 [.string ⟨⟨one_c0_c0⟩⟩], Ent.blk b_one_c2 [.int .i64 one_c2_Err, .int .i64 one_c2_Num, .slice g_one_c2_Texts.a one_c2_Texts.length g_one_c2_Texts.c, .slice g_one_c2_Numbers.a one_c2_Numbers.length g_one_c2_Numbers.c], Ent.own 9 tS one_c2_Texts g_one_c2_Texts, Ent.im (tI .i64) one_c2_Numbers g_one_c2_Numbers]) w [Ent.blk b_one_c0 [.func (.func 50) ⟨[]⟩ ⟨[.pointer (some ⟨b_one_c0_c0, 0, none⟩)]⟩], Ent.blk b_one_c0_c0 [.string ⟨⟨r.2.1⟩⟩], Ent.blk b_one_c2 [.int .i64 one_c2_Err, .int .i64 one_c2_Num, .slice g901.a r.2.2.length g901.c, .slice g_one_c2_Numbers.a one_c2_Numbers.length g_one_c2_Numbers.c], Ent.own 9 tS r.2.2 g901] w') := by
 rw [answer_read_3] at hm
 have hS0 : SH M (fpl [Ent.blk b_one_c0 [.func (.func 50) ⟨[]⟩ ⟨[.pointer (some ⟨b_one_c0_c0, 0, none⟩)]⟩], Ent.blk b_one_c0_c0 [.string ⟨⟨one_c0_c0⟩⟩], Ent.blk b_one_c2 [.int .i64 one_c2_Err, .int .i64 one_c2_Num, .slice g_one_c2_Texts.a one_c2_Texts.length g_one_c2_Texts.c, .slice g_one_c2_Numbers.a one_c2_Numbers.length g_one_c2_Numbers.c], Ent.own 9 tS one_c2_Texts g_one_c2_Texts, Ent.im (tI .i64) one_c2_Numbers g_one_c2_Numbers]) w [Ent.blk b_one_c0 [.func (.func 50) ⟨[]⟩ ⟨[.pointer (some ⟨b_one_c0_c0, 0, none⟩)]⟩], Ent.blk b_one_c0_c0 [.string ⟨⟨one_c0_c0⟩⟩], Ent.blk b_one_c2 [.int .i64 one_c2_Err, .int .i64 one_c2_Num, .slice g_one_c2_Texts.a one_c2_Texts.length g_one_c2_Texts.c, .slice g_one_c2_Numbers.a one_c2_Numbers.length g_one_c2_Numbers.c], Ent.own 9 tS one_c2_Texts g_one_c2_Texts, Ent.im (tI .i64) one_c2_Numbers g_one_c2_Numbers] w := hS
 generalize hX : fpl [Ent.blk b_one_c0 [.func (.func 50) ⟨[]⟩ ⟨[.pointer (some ⟨b_one_c0_c0, 0, none⟩)]⟩], Ent.blk b_one_c0_c0 [.string ⟨⟨one_c0_c0⟩⟩], Ent.blk b_one_c2 [.int .i64 one_c2_Err, .int .i64 one_c2_Num, .slice g_one_c2_Texts.a one_c2_Texts.length g_one_c2_Texts.c, .slice g_one_c2_Numbers.a one_c2_Numbers.length g_one_c2_Numbers.c], Ent.own 9 tS one_c2_Texts g_one_c2_Texts, Ent.im (tI .i64) one_c2_Numbers g_one_c2_Numbers] = X at hS0 ⊢
 clear hS hX
 have hS := hS0
 clear hS0
 refine calls_entryP Tryd.func55 rfl Tryd.ntmps55 rfl fun _ H => ?_
 refine s_reg [] [0, 1] [(0, [], .func (.func 56) ⟨[]⟩ ⟨[.pointer (some ⟨b_one_c0, 0, none⟩), .pointer (some ⟨b_one_c0_c0, 0, none⟩), .pointer (some ⟨b_one_c2, 0, none⟩)]⟩), (1, [], .pointer (some ⟨b_one_c0, 0, none⟩))] [] H (by kernel_rfl) trivial fun _ wd1 H2 hb => ?_
 clear H
 replace hS := hS.below hb
 clear hb
 refine w_seq ?_
 refine w_seq ?_
 refine wl_start ?_
 refine wl_batch 0 1 [(.func (.func 50) ⟨[]⟩ ⟨[.pointer (some ⟨b_one_c0_c0, 0, none⟩)]⟩)] [0, 1, 5] [(0, [], .func (.func 56) ⟨[]⟩ ⟨[.pointer (some ⟨b_one_c0, 0, none⟩), .pointer (some ⟨b_one_c0_c0, 0, none⟩), .pointer (some ⟨b_one_c2, 0, none⟩)]⟩), (1, [], .pointer (some ⟨b_one_c0, 0, none⟩)), (5, [], .func (.func 50) ⟨[]⟩ ⟨[.pointer (some ⟨b_one_c0_c0, 0, none⟩)]⟩)] [fun wz => V.at1 ⟨b_one_c0, 0, none⟩ (.func (.func 50) ⟨[]⟩ ⟨[.pointer (some ⟨b_one_c0_c0, 0, none⟩)]⟩) wz] H2 (by decide) (by kernel_rfl) ⟨((hS.bk 0 rfl).at1 rfl), trivial⟩ fun _ wd3 H4 hb => ?_
 clear H2
 replace hS := hS.below hb
 clear hb
 obtain ⟨y5, hy5, hm⟩ := bindE hm
 have hd := hS.hand [1] [0, 2, 3, 4] rfl rfl
 refine m_stp [6, 0, 1] [(0, [], .func (.func 56) ⟨[]⟩ ⟨[.pointer (some ⟨b_one_c0, 0, none⟩), .pointer (some ⟨b_one_c0_c0, 0, none⟩), .pointer (some ⟨b_one_c2, 0, none⟩)]⟩), (1, [], .pointer (some ⟨b_one_c0, 0, none⟩))] H4 rfl rfl rfl rfl (o_callx H4 rfl rfl (answer_read_1_ok (b_u0 := b_one_c0_c0) _ _ _ hy5 _ _ hd)) (fun _ => rfl) fun _ wd6 v H7 hq => ?_
 clear H4 hd
 obtain ⟨rfl, hq⟩ := hq
 replace hS : SH M X w [Ent.blk b_one_c0_c0 [.string ⟨⟨y5.2⟩⟩], Ent.blk b_one_c0 [.func (.func 50) ⟨[]⟩ ⟨[.pointer (some ⟨b_one_c0_c0, 0, none⟩)]⟩], Ent.blk b_one_c2 [.int .i64 one_c2_Err, .int .i64 one_c2_Num, .slice g_one_c2_Texts.a one_c2_Texts.length g_one_c2_Texts.c, .slice g_one_c2_Numbers.a one_c2_Numbers.length g_one_c2_Numbers.c], Ent.own 9 tS one_c2_Texts g_one_c2_Texts, Ent.im (tI .i64) one_c2_Numbers g_one_c2_Numbers] _ := hS.join [1] [0, 2, 3, 4] rfl rfl hq
 clear hq
 refine wl_batch 2 3 [] [0, 1, 7] [(0, [], .func (.func 56) ⟨[]⟩ ⟨[.pointer (some ⟨b_one_c0, 0, none⟩), .pointer (some ⟨b_one_c0_c0, 0, none⟩), .pointer (some ⟨b_one_c2, 0, none⟩)]⟩), (1, [], .pointer (some ⟨b_one_c0, 0, none⟩)), (7, [], .bool (!y5.1))] [] H7 (by decide) (by kernel_rfl) trivial fun _ wd8 H9 hb => ?_
 clear H7
 replace hS := hS.below hb
 clear hb
 refine wl_end rfl ?_
 refine w_if H9 rfl (fun hc => ?c78) (fun hc => ?_)
 case c78 =>
  replace hm := bT hc hm
  refine s_reg [] [3] [(3, [], .bool false)] [] H9 (by kernel_rfl) trivial fun _ wd10 H11 hb => ?_
  clear H9
  replace hS := hS.below hb
  clear hb
  refine w_ret ?_
  obtain rfl := someE hm
  exact retR1 H11 rfl rfl ⟨_, rfl, g_one_c2_Texts, rfl, (hS.sel [1, 0, 2, 3] rfl)⟩
 replace hm := bF hc hm
 refine w_skip ?_
 obtain ⟨z12, hz, hm_z12⟩ := bindE hm
 refine w_cut (fun a' w' => ∃ s_z12 : Str × (List Str), z12 = Sum.inr s_z12 ∧ ∃ (g74 : Gh), Fr 23 [] a' ∧ SH M X w [Ent.blk b_one_c0_c0 [.string ⟨⟨s_z12.1⟩⟩], Ent.blk b_one_c0 [.func (.func 50) ⟨[]⟩ ⟨[.pointer (some ⟨b_one_c0_c0, 0, none⟩)]⟩], Ent.blk b_one_c2 [.int .i64 one_c2_Err, .int .i64 one_c2_Num, .slice g74.a s_z12.2.length g74.c, .slice g_one_c2_Numbers.a one_c2_Numbers.length g_one_c2_Numbers.c], Ent.own 9 tS s_z12.2 g74, Ent.im (tI .i64) one_c2_Numbers g_one_c2_Numbers] w') ?_ ?_
 ·replace hm := hz
  refine s_reg [] [0, 1, 4] [(0, [], .func (.func 56) ⟨[]⟩ ⟨[.pointer (some ⟨b_one_c0, 0, none⟩), .pointer (some ⟨b_one_c0_c0, 0, none⟩), .pointer (some ⟨b_one_c2, 0, none⟩)]⟩), (1, [], .pointer (some ⟨b_one_c0, 0, none⟩)), (4, [], .bool true)] [] H9 (by kernel_rfl) trivial fun _ wd13 H14 hb => ?_
  clear H9
  replace hS := hS.below hb
  clear hb
  refine w_block ?_
  refine w_loop (fun kk a' w' => ∃ (v15 : Bool) (v16 : Str) (v17 : List Str) (g18 : Gh), answer_read_3_L1 m one_c2_Err one_c2_Num one_c2_Numbers kk v15 v16 v17 = some _ ∧ Fr 23 [(0, [], .func (.func 56) ⟨[]⟩ ⟨[.pointer (some ⟨b_one_c0, 0, none⟩), .pointer (some ⟨b_one_c0_c0, 0, none⟩), .pointer (some ⟨b_one_c2, 0, none⟩)]⟩), (1, [], .pointer (some ⟨b_one_c0, 0, none⟩)), (4, [], .bool v15)] a' ∧ SH M X w [Ent.blk b_one_c0_c0 [.string ⟨⟨v16⟩⟩], Ent.blk b_one_c0 [.func (.func 50) ⟨[]⟩ ⟨[.pointer (some ⟨b_one_c0_c0, 0, none⟩)]⟩], Ent.blk b_one_c2 [.int .i64 one_c2_Err, .int .i64 one_c2_Num, .slice g18.a v17.length g18.c, .slice g_one_c2_Numbers.a one_c2_Numbers.length g_one_c2_Numbers.c], Ent.own 9 tS v17 g18, Ent.im (tI .i64) one_c2_Numbers g_one_c2_Numbers] w') ⟨_, true, y5.2, one_c2_Texts, g_one_c2_Texts, hm, FrG.keep (ks := [0, 1, 4]) H14 (by kernel_rfl), hS⟩ ?_
  clear hm H14 hS
  rintro kk _ wd73 ⟨v15, v16, v17, g18, hm, H, hS⟩
  cases kk with
  | zero => exact noneE hm
  | succ kk =>
   rw [answer_read_3_L1] at hm
   refine w_seq ?_
   refine w_seq ?_
   refine wl_start ?_
   refine wl_batch 0 1 [(.func (.func 50) ⟨[]⟩ ⟨[.pointer (some ⟨b_one_c0_c0, 0, none⟩)]⟩)] [0, 1, 4, 8] [(0, [], .func (.func 56) ⟨[]⟩ ⟨[.pointer (some ⟨b_one_c0, 0, none⟩), .pointer (some ⟨b_one_c0_c0, 0, none⟩), .pointer (some ⟨b_one_c2, 0, none⟩)]⟩), (1, [], .pointer (some ⟨b_one_c0, 0, none⟩)), (4, [], .bool v15), (8, [], .func (.func 50) ⟨[]⟩ ⟨[.pointer (some ⟨b_one_c0_c0, 0, none⟩)]⟩)] [fun wz => V.at1 ⟨b_one_c0, 0, none⟩ (.func (.func 50) ⟨[]⟩ ⟨[.pointer (some ⟨b_one_c0_c0, 0, none⟩)]⟩) wz] H (by decide) (by kernel_rfl) ⟨((hS.bk 1 rfl).at1 rfl), trivial⟩ fun _ wd19 H20 hb => ?_
   clear H
   replace hS := hS.below hb
   clear hb
   obtain ⟨y21, hy21, hm⟩ := bindE hm
   have hd := hS.hand [0] [1, 2, 3, 4] rfl rfl
   refine m_stp [9, 0, 1, 4] [(0, [], .func (.func 56) ⟨[]⟩ ⟨[.pointer (some ⟨b_one_c0, 0, none⟩), .pointer (some ⟨b_one_c0_c0, 0, none⟩), .pointer (some ⟨b_one_c2, 0, none⟩)]⟩), (1, [], .pointer (some ⟨b_one_c0, 0, none⟩)), (4, [], .bool v15)] H20 rfl rfl rfl rfl (o_callx H20 rfl rfl (answer_read_1_ok (b_u0 := b_one_c0_c0) _ _ _ hy21 _ _ hd)) (fun _ => rfl) fun _ wd22 v H23 hq => ?_
   clear H20 hd
   obtain ⟨rfl, hq⟩ := hq
   replace hS : SH M X w [Ent.blk b_one_c0_c0 [.string ⟨⟨y21.2⟩⟩], Ent.blk b_one_c0 [.func (.func 50) ⟨[]⟩ ⟨[.pointer (some ⟨b_one_c0_c0, 0, none⟩)]⟩], Ent.blk b_one_c2 [.int .i64 one_c2_Err, .int .i64 one_c2_Num, .slice g18.a v17.length g18.c, .slice g_one_c2_Numbers.a one_c2_Numbers.length g_one_c2_Numbers.c], Ent.own 9 tS v17 g18, Ent.im (tI .i64) one_c2_Numbers g_one_c2_Numbers] _ := hS.join [0] [1, 2, 3, 4] rfl rfl hq
   clear hq
   refine wl_batch 2 3 [] [0, 1, 4, 10] [(0, [], .func (.func 56) ⟨[]⟩ ⟨[.pointer (some ⟨b_one_c0, 0, none⟩), .pointer (some ⟨b_one_c0_c0, 0, none⟩), .pointer (some ⟨b_one_c2, 0, none⟩)]⟩), (1, [], .pointer (some ⟨b_one_c0, 0, none⟩)), (4, [], .bool v15), (10, [], .bool (!y21.1))] [] H23 (by decide) (by kernel_rfl) trivial fun _ wd24 H25 hb => ?_
   clear H23
   replace hS := hS.below hb
   clear hb
   refine wl_end rfl ?_
   refine w_if H25 rfl (fun hc => ?_) (fun hc => ?c72)
   case c72 =>
    replace hm := bF hc hm
    refine w_exit rfl ?_
    obtain rfl := someE hm
    exact ⟨_, rfl, g18, FrG.keep (ks := []) H25 (by kernel_rfl), hS⟩
   replace hm := bT hc hm
   refine w_skip ?_
   refine w_seq ?_
   refine w_block ?_
   obtain ⟨z26, hz, hm⟩ := bindE hm
   refine w_cut (fun a' w' => ∃ (g64 : Gh), Fr 23 [(0, [], .func (.func 56) ⟨[]⟩ ⟨[.pointer (some ⟨b_one_c0, 0, none⟩), .pointer (some ⟨b_one_c0_c0, 0, none⟩), .pointer (some ⟨b_one_c2, 0, none⟩)]⟩), (1, [], .pointer (some ⟨b_one_c0, 0, none⟩)), (22, [], .bool z26.1)] a' ∧ SH M X w [Ent.own 9 tS z26.2.2 g64, Ent.blk b_one_c0_c0 [.string ⟨⟨z26.2.1⟩⟩], Ent.blk b_one_c0 [.func (.func 50) ⟨[]⟩ ⟨[.pointer (some ⟨b_one_c0_c0, 0, none⟩)]⟩], Ent.blk b_one_c2 [.int .i64 one_c2_Err, .int .i64 one_c2_Num, .slice g64.a z26.2.2.length g64.c, .slice g_one_c2_Numbers.a one_c2_Numbers.length g_one_c2_Numbers.c], Ent.im (tI .i64) one_c2_Numbers g_one_c2_Numbers] w') ?_ ?_
   ·replace hm := hz
    refine wl_start ?_
    obtain ⟨x27, hx27, hm⟩ := letE hm
    refine wl_batch 0 3 [] [0, 1, 13] [(0, [], .func (.func 56) ⟨[]⟩ ⟨[.pointer (some ⟨b_one_c0, 0, none⟩), .pointer (some ⟨b_one_c0_c0, 0, none⟩), .pointer (some ⟨b_one_c2, 0, none⟩)]⟩), (1, [], .pointer (some ⟨b_one_c0, 0, none⟩)), (13, [], .bool x27)] [] H25 (by decide) (by subst hx27; kernel_rfl) trivial fun _ wd28 H29 hb => ?_
    clear H25
    replace hS := hS.below hb
    clear hb
    cases x27
    case false =>
     replace hm := bF rfl hm
     refine m_skipG 13 [14, 0, 1, 13] [(14, [], undef), (0, [], .func (.func 56) ⟨[]⟩ ⟨[.pointer (some ⟨b_one_c0, 0, none⟩), .pointer (some ⟨b_one_c0_c0, 0, none⟩), .pointer (some ⟨b_one_c2, 0, none⟩)]⟩), (1, [], .pointer (some ⟨b_one_c0, 0, none⟩)), (13, [], .bool false)] H29 rfl rfl rfl rfl rfl rfl fun _ H52 => ?_
     clear H29
     refine m_skipG 13 [15, 0, 1, 13] [(15, [], undef), (0, [], .func (.func 56) ⟨[]⟩ ⟨[.pointer (some ⟨b_one_c0, 0, none⟩), .pointer (some ⟨b_one_c0_c0, 0, none⟩), .pointer (some ⟨b_one_c2, 0, none⟩)]⟩), (1, [], .pointer (some ⟨b_one_c0, 0, none⟩)), (13, [], .bool false)] H52 rfl rfl rfl rfl rfl rfl fun _ H53 => ?_
     clear H52
     refine m_skipG 13 [16, 0, 1, 13] [(16, [], undef), (0, [], .func (.func 56) ⟨[]⟩ ⟨[.pointer (some ⟨b_one_c0, 0, none⟩), .pointer (some ⟨b_one_c0_c0, 0, none⟩), .pointer (some ⟨b_one_c2, 0, none⟩)]⟩), (1, [], .pointer (some ⟨b_one_c0, 0, none⟩)), (13, [], .bool false)] H53 rfl rfl rfl rfl rfl rfl fun _ H54 => ?_
     clear H53
     refine wl_batchM 6 9 [] [(0, 0), (1, 0), (18, 0), (19, 1)] [(0, [], .func (.func 56) ⟨[]⟩ ⟨[.pointer (some ⟨b_one_c0, 0, none⟩), .pointer (some ⟨b_one_c0_c0, 0, none⟩), .pointer (some ⟨b_one_c2, 0, none⟩)]⟩), (1, [], .pointer (some ⟨b_one_c0, 0, none⟩)), (18, [], .bool false), (19, [], .func (.func 56) ⟨[]⟩ ⟨[.pointer (some ⟨b_one_c0, 0, none⟩), .pointer (some ⟨b_one_c0_c0, 0, none⟩), .pointer (some ⟨b_one_c2, 0, none⟩)]⟩)] [] H54 (by decide) (by kernel_rfl) trivial fun _ wd55 H56 hb => ?_
     clear H54
     replace hS := hS.below hb
     clear hb
     obtain ⟨y57, hy57, hm⟩ := bindE hm
     have hd := hS.hand [1, 0, 2, 3, 4] [4] rfl rfl
     refine m_stpG 18 [20, 0, 1, 18] [(0, [], .func (.func 56) ⟨[]⟩ ⟨[.pointer (some ⟨b_one_c0, 0, none⟩), .pointer (some ⟨b_one_c0_c0, 0, none⟩), .pointer (some ⟨b_one_c2, 0, none⟩)]⟩), (1, [], .pointer (some ⟨b_one_c0, 0, none⟩)), (18, [], .bool false)] H56 rfl rfl rfl rfl (o_callx H56 rfl rfl (answer_read_4_ok (b_u0 := b_one_c0) (b_u0_c0 := b_one_c0_c0) (b_u2 := b_one_c2) (g_u2_Texts := g18) (g_u2_Numbers := g_one_c2_Numbers) m _ _ _ _ _ _ hy57 _ _ hd)) (fun _ => rfl) fun _ wd60 v H61 hq => ?_
     clear H56 hd
     obtain ⟨g58, rfl, hq⟩ := hq
     replace hS : SH M X w [Ent.blk b_one_c0 [.func (.func 50) ⟨[]⟩ ⟨[.pointer (some ⟨b_one_c0_c0, 0, none⟩)]⟩], Ent.blk b_one_c0_c0 [.string ⟨⟨y57.2.1⟩⟩], Ent.blk b_one_c2 [.int .i64 one_c2_Err, .int .i64 one_c2_Num, .slice g58.a y57.2.2.length g58.c, .slice g_one_c2_Numbers.a one_c2_Numbers.length g_one_c2_Numbers.c], Ent.own 9 tS y57.2.2 g58, Ent.im (tI .i64) one_c2_Numbers g_one_c2_Numbers] _ := hS.join [1, 0, 2, 3, 4] [4] rfl rfl hq
     clear hq
     refine wl_batch 10 12 [] [0, 1, 22] [(0, [], .func (.func 56) ⟨[]⟩ ⟨[.pointer (some ⟨b_one_c0, 0, none⟩), .pointer (some ⟨b_one_c0_c0, 0, none⟩), .pointer (some ⟨b_one_c2, 0, none⟩)]⟩), (1, [], .pointer (some ⟨b_one_c0, 0, none⟩)), (22, [], .bool (!y57.1))] [] H61 (by decide) (by kernel_rfl) trivial fun _ wd62 H63 hb => ?_
     clear H61
     replace hS := hS.below hb
     clear hb
     refine wl_end rfl ?_
     obtain rfl := someE hm
     replace hS : SH M X w [Ent.own 9 tS y57.2.2 g58, Ent.blk b_one_c0_c0 [.string ⟨⟨y57.2.1⟩⟩], Ent.blk b_one_c0 [.func (.func 50) ⟨[]⟩ ⟨[.pointer (some ⟨b_one_c0_c0, 0, none⟩)]⟩], Ent.blk b_one_c2 [.int .i64 one_c2_Err, .int .i64 one_c2_Num, .slice g58.a y57.2.2.length g58.c, .slice g_one_c2_Numbers.a one_c2_Numbers.length g_one_c2_Numbers.c], Ent.im (tI .i64) one_c2_Numbers g_one_c2_Numbers] _ := hS.sel [3, 1, 0, 2, 4] rfl
     exact ⟨g58, FrG.keep (ks := [0, 1, 22]) H63 (by kernel_rfl), hS⟩
    replace hm := bT rfl hm
    refine wl_batchM 3 4 [(.func (.func 50) ⟨[]⟩ ⟨[.pointer (some ⟨b_one_c0_c0, 0, none⟩)]⟩)] [(0, 0), (1, 0), (13, 0), (14, 1)] [(0, [], .func (.func 56) ⟨[]⟩ ⟨[.pointer (some ⟨b_one_c0, 0, none⟩), .pointer (some ⟨b_one_c0_c0, 0, none⟩), .pointer (some ⟨b_one_c2, 0, none⟩)]⟩), (1, [], .pointer (some ⟨b_one_c0, 0, none⟩)), (13, [], .bool true), (14, [], .func (.func 50) ⟨[]⟩ ⟨[.pointer (some ⟨b_one_c0_c0, 0, none⟩)]⟩)] [fun wz => (true = true ∧ True → V.at1 ⟨b_one_c0, 0, none⟩ (.func (.func 50) ⟨[]⟩ ⟨[.pointer (some ⟨b_one_c0_c0, 0, none⟩)]⟩) wz)] H29 (by decide) (by kernel_rfl) ⟨fun hg => (hS.bk 1 rfl).at1 rfl, trivial⟩ fun _ wd30 H31 hb => ?_
    clear H29
    replace hS := hS.below hb
    clear hb
    obtain ⟨y32, hy32, hm⟩ := bindE hm
    have hd := hS.hand [0] [1, 2, 3, 4] rfl rfl
    refine m_stpG 13 [15, 0, 1, 13] [(0, [], .func (.func 56) ⟨[]⟩ ⟨[.pointer (some ⟨b_one_c0, 0, none⟩), .pointer (some ⟨b_one_c0_c0, 0, none⟩), .pointer (some ⟨b_one_c2, 0, none⟩)]⟩), (1, [], .pointer (some ⟨b_one_c0, 0, none⟩)), (13, [], .bool true)] H31 rfl rfl rfl rfl (o_callx H31 rfl rfl (answer_read_1_ok (b_u0 := b_one_c0_c0) _ _ _ hy32 _ _ hd)) (fun _ => rfl) fun _ wd33 v H34 hq => ?_
    clear H31 hd
    obtain ⟨rfl, hq⟩ := hq
    replace hS : SH M X w [Ent.blk b_one_c0_c0 [.string ⟨⟨y32.2⟩⟩], Ent.blk b_one_c0 [.func (.func 50) ⟨[]⟩ ⟨[.pointer (some ⟨b_one_c0_c0, 0, none⟩)]⟩], Ent.blk b_one_c2 [.int .i64 one_c2_Err, .int .i64 one_c2_Num, .slice g18.a v17.length g18.c, .slice g_one_c2_Numbers.a one_c2_Numbers.length g_one_c2_Numbers.c], Ent.own 9 tS v17 g18, Ent.im (tI .i64) one_c2_Numbers g_one_c2_Numbers] _ := hS.join [0] [1, 2, 3, 4] rfl rfl hq
    clear hq
    obtain ⟨x35, hx35, hm⟩ := letE hm
    refine wl_batch 5 8 [] [0, 1, 18] [(0, [], .func (.func 56) ⟨[]⟩ ⟨[.pointer (some ⟨b_one_c0, 0, none⟩), .pointer (some ⟨b_one_c0_c0, 0, none⟩), .pointer (some ⟨b_one_c2, 0, none⟩)]⟩), (1, [], .pointer (some ⟨b_one_c0, 0, none⟩)), (18, [], .bool x35)] [] H34 (by decide) (by subst hx35; kernel_rfl) trivial fun _ wd36 H37 hb => ?_
    clear H34
    replace hS := hS.below hb
    clear hb
    cases x35
    case true =>
     replace hm := bT rfl hm
     refine m_skipG 18 [19, 0, 1, 18] [(19, [], undef), (0, [], .func (.func 56) ⟨[]⟩ ⟨[.pointer (some ⟨b_one_c0, 0, none⟩), .pointer (some ⟨b_one_c0_c0, 0, none⟩), .pointer (some ⟨b_one_c2, 0, none⟩)]⟩), (1, [], .pointer (some ⟨b_one_c0, 0, none⟩)), (18, [], .bool true)] H37 rfl rfl rfl rfl rfl rfl fun _ H38 => ?_
     clear H37
     refine m_skipG 18 [20, 0, 1, 18] [(20, [], undef), (0, [], .func (.func 56) ⟨[]⟩ ⟨[.pointer (some ⟨b_one_c0, 0, none⟩), .pointer (some ⟨b_one_c0_c0, 0, none⟩), .pointer (some ⟨b_one_c2, 0, none⟩)]⟩), (1, [], .pointer (some ⟨b_one_c0, 0, none⟩)), (18, [], .bool true)] H38 rfl rfl rfl rfl rfl rfl fun _ H39 => ?_
     clear H38
     refine m_skipG 18 [21, 0, 1, 18] [(21, [], undef), (0, [], .func (.func 56) ⟨[]⟩ ⟨[.pointer (some ⟨b_one_c0, 0, none⟩), .pointer (some ⟨b_one_c0_c0, 0, none⟩), .pointer (some ⟨b_one_c2, 0, none⟩)]⟩), (1, [], .pointer (some ⟨b_one_c0, 0, none⟩)), (18, [], .bool true)] H39 rfl rfl rfl rfl rfl rfl fun _ H40 => ?_
     clear H39
     refine wl_batch 11 12 [] [0, 1, 22] [(0, [], .func (.func 56) ⟨[]⟩ ⟨[.pointer (some ⟨b_one_c0, 0, none⟩), .pointer (some ⟨b_one_c0_c0, 0, none⟩), .pointer (some ⟨b_one_c2, 0, none⟩)]⟩), (1, [], .pointer (some ⟨b_one_c0, 0, none⟩)), (22, [], .bool true)] [] H40 (by decide) (by kernel_rfl) trivial fun _ wd41 H42 hb => ?_
     clear H40
     replace hS := hS.below hb
     clear hb
     refine wl_end rfl ?_
     obtain rfl := someE hm
     replace hS : SH M X w [Ent.own 9 tS v17 g18, Ent.blk b_one_c0_c0 [.string ⟨⟨y32.2⟩⟩], Ent.blk b_one_c0 [.func (.func 50) ⟨[]⟩ ⟨[.pointer (some ⟨b_one_c0_c0, 0, none⟩)]⟩], Ent.blk b_one_c2 [.int .i64 one_c2_Err, .int .i64 one_c2_Num, .slice g18.a v17.length g18.c, .slice g_one_c2_Numbers.a one_c2_Numbers.length g_one_c2_Numbers.c], Ent.im (tI .i64) one_c2_Numbers g_one_c2_Numbers] _ := hS.sel [3, 0, 1, 2, 4] rfl
     exact ⟨g18, FrG.keep (ks := [0, 1, 22]) H42 (by kernel_rfl), hS⟩
    replace hm := bF rfl hm
    refine wl_batchM 8 9 [] [(0, 0), (1, 0), (18, 0), (19, 1)] [(0, [], .func (.func 56) ⟨[]⟩ ⟨[.pointer (some ⟨b_one_c0, 0, none⟩), .pointer (some ⟨b_one_c0_c0, 0, none⟩), .pointer (some ⟨b_one_c2, 0, none⟩)]⟩), (1, [], .pointer (some ⟨b_one_c0, 0, none⟩)), (18, [], .bool false), (19, [], .func (.func 56) ⟨[]⟩ ⟨[.pointer (some ⟨b_one_c0, 0, none⟩), .pointer (some ⟨b_one_c0_c0, 0, none⟩), .pointer (some ⟨b_one_c2, 0, none⟩)]⟩)] [] H37 (by decide) (by kernel_rfl) trivial fun _ wd43 H44 hb => ?_
    clear H37
    replace hS := hS.below hb
    clear hb
    obtain ⟨y45, hy45, hm⟩ := bindE hm
    have hd := hS.hand [1, 0, 2, 3, 4] [4] rfl rfl
    refine m_stpG 18 [20, 0, 1, 18] [(0, [], .func (.func 56) ⟨[]⟩ ⟨[.pointer (some ⟨b_one_c0, 0, none⟩), .pointer (some ⟨b_one_c0_c0, 0, none⟩), .pointer (some ⟨b_one_c2, 0, none⟩)]⟩), (1, [], .pointer (some ⟨b_one_c0, 0, none⟩)), (18, [], .bool false)] H44 rfl rfl rfl rfl (o_callx H44 rfl rfl (answer_read_4_ok (b_u0 := b_one_c0) (b_u0_c0 := b_one_c0_c0) (b_u2 := b_one_c2) (g_u2_Texts := g18) (g_u2_Numbers := g_one_c2_Numbers) m _ _ _ _ _ _ hy45 _ _ hd)) (fun _ => rfl) fun _ wd48 v H49 hq => ?_
    clear H44 hd
    obtain ⟨g46, rfl, hq⟩ := hq
    replace hS : SH M X w [Ent.blk b_one_c0 [.func (.func 50) ⟨[]⟩ ⟨[.pointer (some ⟨b_one_c0_c0, 0, none⟩)]⟩], Ent.blk b_one_c0_c0 [.string ⟨⟨y45.2.1⟩⟩], Ent.blk b_one_c2 [.int .i64 one_c2_Err, .int .i64 one_c2_Num, .slice g46.a y45.2.2.length g46.c, .slice g_one_c2_Numbers.a one_c2_Numbers.length g_one_c2_Numbers.c], Ent.own 9 tS y45.2.2 g46, Ent.im (tI .i64) one_c2_Numbers g_one_c2_Numbers] _ := hS.join [1, 0, 2, 3, 4] [4] rfl rfl hq
    clear hq
    refine wl_batch 10 12 [] [0, 1, 22] [(0, [], .func (.func 56) ⟨[]⟩ ⟨[.pointer (some ⟨b_one_c0, 0, none⟩), .pointer (some ⟨b_one_c0_c0, 0, none⟩), .pointer (some ⟨b_one_c2, 0, none⟩)]⟩), (1, [], .pointer (some ⟨b_one_c0, 0, none⟩)), (22, [], .bool (!y45.1))] [] H49 (by decide) (by kernel_rfl) trivial fun _ wd50 H51 hb => ?_
    clear H49
    replace hS := hS.below hb
    clear hb
    refine wl_end rfl ?_
    obtain rfl := someE hm
    replace hS : SH M X w [Ent.own 9 tS y45.2.2 g46, Ent.blk b_one_c0_c0 [.string ⟨⟨y45.2.1⟩⟩], Ent.blk b_one_c0 [.func (.func 50) ⟨[]⟩ ⟨[.pointer (some ⟨b_one_c0_c0, 0, none⟩)]⟩], Ent.blk b_one_c2 [.int .i64 one_c2_Err, .int .i64 one_c2_Num, .slice g46.a y45.2.2.length g46.c, .slice g_one_c2_Numbers.a one_c2_Numbers.length g_one_c2_Numbers.c], Ent.im (tI .i64) one_c2_Numbers g_one_c2_Numbers] _ := hS.sel [3, 1, 0, 2, 4] rfl
    exact ⟨g46, FrG.keep (ks := [0, 1, 22]) H51 (by kernel_rfl), hS⟩
   ·rintro _ wd71 ⟨g64, H, hS⟩
    refine w_if H rfl (fun hc => ?_) (fun hc => ?c70)
    case c70 =>
     replace hm := bF hc hm
     refine w_skip ?_
     refine w_reg [] [0, 1, 4] [(0, [], .func (.func 56) ⟨[]⟩ ⟨[.pointer (some ⟨b_one_c0, 0, none⟩), .pointer (some ⟨b_one_c0_c0, 0, none⟩), .pointer (some ⟨b_one_c2, 0, none⟩)]⟩), (1, [], .pointer (some ⟨b_one_c0, 0, none⟩)), (4, [], .bool false)] [] H (by kernel_rfl) trivial fun _ wd68 H69 hb => ?_
     clear H
     replace hS := hS.below hb
     clear hb
     replace hS : SH M X w [Ent.blk b_one_c0_c0 [.string ⟨⟨z26.2.1⟩⟩], Ent.blk b_one_c0 [.func (.func 50) ⟨[]⟩ ⟨[.pointer (some ⟨b_one_c0_c0, 0, none⟩)]⟩], Ent.blk b_one_c2 [.int .i64 one_c2_Err, .int .i64 one_c2_Num, .slice g64.a z26.2.2.length g64.c, .slice g_one_c2_Numbers.a one_c2_Numbers.length g_one_c2_Numbers.c], Ent.own 9 tS z26.2.2 g64, Ent.im (tI .i64) one_c2_Numbers g_one_c2_Numbers] _ := hS.sel [1, 2, 3, 0, 4] rfl
     exact ⟨_, Nat.lt_succ_self _, false, z26.2.1, z26.2.2, g64, hm, FrG.keep (ks := [0, 1, 4]) H69 (by kernel_rfl), hS⟩
    replace hm := bT hc hm
    refine s_reg [] [3] [(3, [], .bool false)] [] H (by kernel_rfl) trivial fun _ wd66 H67 hb => ?_
    clear H
    replace hS := hS.below hb
    clear hb
    refine w_ret ?_
    obtain rfl := someE hm
    have hm := hm_z12
    obtain rfl := someE hm
    exact retR1 H67 rfl rfl ⟨_, rfl, g64, rfl, (hS.sel [2, 1, 3, 0] rfl)⟩
 ·rintro _ wd77 ⟨s_z12, hz, g74, H, hS⟩
  subst hz
  replace hm := sumR hm_z12
  refine s_reg [] [3] [(3, [], .bool true)] [] H (by kernel_rfl) trivial fun _ wd75 H76 hb => ?_
  clear H
  replace hS := hS.below hb
  clear hb
  refine w_ret ?_
  obtain rfl := someE hm
  exact retR1 H76 rfl rfl ⟨_, rfl, g74, rfl, (hS.sel [1, 0, 2, 3] rfl)⟩
theorem answer_read_3_ok {b_one_c0 : Nat} {b_one_c0_c0 : Nat} {b_one_c2 : Nat} {g_one_c2_Texts : Gh} {g_one_c2_Numbers : Gh} (m : Nat) (one_c0_c0 : Str) (one_c2_Err : Int) (one_c2_Num : Int) (one_c2_Texts : List Str) (one_c2_Numbers : List Int) (r : Bool × Str × (List Str)) (hm : answer_read_3 m one_c0_c0 one_c2_Err one_c2_Num one_c2_Texts one_c2_Numbers = some r) (M : Av) (w : World) (hS : S0 M [Ent.blk b_one_c0 [.func (.func 50) ⟨[]⟩ ⟨[.pointer (some ⟨b_one_c0_c0, 0, none⟩)]⟩], Ent.blk b_one_c0_c0 [.string ⟨⟨one_c0_c0⟩⟩], Ent.blk b_one_c2 [.int .i64 one_c2_Err, .int .i64 one_c2_Num, .slice g_one_c2_Texts.a one_c2_Texts.length g_one_c2_Texts.c, .slice g_one_c2_Numbers.a one_c2_Numbers.length g_one_c2_Numbers.c], Ent.own 9 tS one_c2_Texts g_one_c2_Texts, Ent.im (tI .i64) one_c2_Numbers g_one_c2_Numbers] w) : DoesX Tryd.prog 55 ⟨[.func (.func 56) ⟨[]⟩ ⟨[.pointer (some ⟨b_one_c0, 0, none⟩), .pointer (some ⟨b_one_c0_c0, 0, none⟩), .pointer (some ⟨b_one_c2, 0, none⟩)]⟩, .pointer (some ⟨b_one_c0, 0, none⟩)]⟩ w (fun v w' => ∃ (g901 : Gh), v = .bool r.1 ∧ SH M (fpl [Ent.blk b_one_c0 [.func (.func 50) ⟨[]⟩ ⟨[.pointer (some ⟨b_one_c0_c0, 0, none⟩)]⟩], Ent.blk b_one_c0_c0 [.string ⟨⟨one_c0_c0⟩⟩], Ent.blk b_one_c2 [.int .i64 one_c2_Err, .int .i64 one_c2_Num, .slice g_one_c2_Texts.a one_c2_Texts.length g_one_c2_Texts.c, .slice g_one_c2_Numbers.a one_c2_Numbers.length g_one_c2_Numbers.c], Ent.own 9 tS one_c2_Texts g_one_c2_Texts, Ent.im (tI .i64) one_c2_Numbers g_one_c2_Numbers]) w [Ent.blk b_one_c0 [.func (.func 50) ⟨[]⟩ ⟨[.pointer (some ⟨b_one_c0_c0, 0, none⟩)]⟩], Ent.blk b_one_c0_c0 [.string ⟨⟨r.2.1⟩⟩], Ent.blk b_one_c2 [.int .i64 one_c2_Err, .int .i64 one_c2_Num, .slice g901.a r.2.2.length g901.c, .slice g_one_c2_Numbers.a one_c2_Numbers.length g_one_c2_Numbers.c], Ent.own 9 tS r.2.2 g901] w') := ⟨Tryd.call55 _, answer_read_3_w M m   one_c0_c0 one_c2_Err one_c2_Num one_c2_Texts one_c2_Numbers r hm w hS⟩

theorem answer_read_5_w {b_u0 : Nat} {b_u0_c0 : Nat} {b_u1 : Nat} {g_u1_Texts : Gh} {g_u1_Numbers : Gh} (M : Av) (u0_c0 : Str) (u1_Err : Int) (u1_Num : Int) (u1_Texts : List Str) (u1_Numbers : List Int) (r : Bool × Str × (List Int)) (hm : answer_read_5 u0_c0 u1_Err u1_Num u1_Texts u1_Numbers = some r) (w : World) (hS : S0 M [Ent.blk b_u0 [.func (.func 52) ⟨[]⟩ ⟨[.pointer (some ⟨b_u0_c0, 0, none⟩)]⟩], Ent.blk b_u0_c0 [.string ⟨⟨u0_c0⟩⟩], Ent.blk b_u1 [.int .i64 u1_Err, .int .i64 u1_Num, .slice g_u1_Texts.a u1_Texts.length g_u1_Texts.c, .slice g_u1_Numbers.a u1_Numbers.length g_u1_Numbers.c], Ent.im tS u1_Texts g_u1_Texts, Ent.own 3 (tI .i64) u1_Numbers g_u1_Numbers, Ent.gifc 2, Ent.gifc 3] w) : Calls Tryd.prog 58 ⟨[.pointer (some ⟨b_u0, 0, none⟩), .pointer (some ⟨b_u1, 0, none⟩)]⟩ w (fun e w' => ∃ v, e = .returned v ∧ ∃ (g901 : Gh), v = .bool r.1 ∧ SH M (fpl [Ent.blk b_u0 [.func (.func 52) ⟨[]⟩ ⟨[.pointer (some ⟨b_u0_c0, 0, none⟩)]⟩], Ent.blk b_u0_c0 [.string ⟨⟨u0_c0⟩⟩], Ent.blk b_u1 [.int .i64 u1_Err, .int .i64 u1_Num, .slice g_u1_Texts.a u1_Texts.length g_u1_Texts.c, .slice g_u1_Numbers.a u1_Numbers.length g_u1_Numbers.c], Ent.im tS u1_Texts g_u1_Texts, Ent.own 3 (tI .i64) u1_Numbers g_u1_Numbers, Ent.gifc 2, Ent.gifc 3]) w [Ent.blk b_u0 [.func (.func 52) ⟨[]⟩ ⟨[.pointer (some ⟨b_u0_c0, 0, none⟩)]⟩], Ent.blk b_u0_c0 [.string ⟨⟨r.2.1⟩⟩], Ent.blk b_u1 [.int .i64 u1_Err, .int .i64 u1_Num, .slice g_u1_Texts.a u1_Texts.length g_u1_Texts.c, .slice g901.a r.2.2.length g901.c], Ent.own 3 (tI .i64) r.2.2 g901] w') := by
 rw [answer_read_5] at hm
 have hS0 : SH M (fpl [Ent.blk b_u0 [.func (.func 52) ⟨[]⟩ ⟨[.pointer (some ⟨b_u0_c0, 0, none⟩)]⟩], Ent.blk b_u0_c0 [.string ⟨⟨u0_c0⟩⟩], Ent.blk b_u1 [.int .i64 u1_Err, .int .i64 u1_Num, .slice g_u1_Texts.a u1_Texts.length g_u1_Texts.c, .slice g_u1_Numbers.a u1_Numbers.length g_u1_Numbers.c], Ent.im tS u1_Texts g_u1_Texts, Ent.own 3 (tI .i64) u1_Numbers g_u1_Numbers, Ent.gifc 2, Ent.gifc 3]) w [Ent.blk b_u0 [.func (.func 52) ⟨[]⟩ ⟨[.pointer (some ⟨b_u0_c0, 0, none⟩)]⟩], Ent.blk b_u0_c0 [.string ⟨⟨u0_c0⟩⟩], Ent.blk b_u1 [.int .i64 u1_Err, .int .i64 u1_Num, .slice g_u1_Texts.a u1_Texts.length g_u1_Texts.c, .slice g_u1_Numbers.a u1_Numbers.length g_u1_Numbers.c], Ent.im tS u1_Texts g_u1_Texts, Ent.own 3 (tI .i64) u1_Numbers g_u1_Numbers, Ent.gifc 2, Ent.gifc 3] w := hS
 generalize hX : fpl [Ent.blk b_u0 [.func (.func 52) ⟨[]⟩ ⟨[.pointer (some ⟨b_u0_c0, 0, none⟩)]⟩], Ent.blk b_u0_c0 [.string ⟨⟨u0_c0⟩⟩], Ent.blk b_u1 [.int .i64 u1_Err, .int .i64 u1_Num, .slice g_u1_Texts.a u1_Texts.length g_u1_Texts.c, .slice g_u1_Numbers.a u1_Numbers.length g_u1_Numbers.c], Ent.im tS u1_Texts g_u1_Texts, Ent.own 3 (tI .i64) u1_Numbers g_u1_Numbers, Ent.gifc 2, Ent.gifc 3] = X at hS0 ⊢
 clear hS hX
 have hS := hS0
 clear hS0
 refine calls_entryP Tryd.func58 rfl Tryd.ntmps58 rfl fun _ H => ?_
 refine s_reg [] [0, 1] [(0, [], .pointer (some ⟨b_u0, 0, none⟩)), (1, [], .pointer (some ⟨b_u1, 0, none⟩))] [] H (by kernel_rfl) trivial fun _ wd1 H2 hb => ?_
 clear H
 replace hS := hS.below hb
 clear hb
 refine w_seq ?_
 refine wl_start ?_
 refine wl_batch 0 1 [(.func (.func 52) ⟨[]⟩ ⟨[.pointer (some ⟨b_u0_c0, 0, none⟩)]⟩)] [1, 6] [(1, [], .pointer (some ⟨b_u1, 0, none⟩)), (6, [], .func (.func 52) ⟨[]⟩ ⟨[.pointer (some ⟨b_u0_c0, 0, none⟩)]⟩)] [fun wz => V.at1 ⟨b_u0, 0, none⟩ (.func (.func 52) ⟨[]⟩ ⟨[.pointer (some ⟨b_u0_c0, 0, none⟩)]⟩) wz] H2 (by decide) (by kernel_rfl) ⟨((hS.bk 0 rfl).at1 rfl), trivial⟩ fun _ wd3 H4 hb => ?_
 clear H2
 replace hS := hS.below hb
 clear hb
 obtain ⟨y5, hy5, hm⟩ := bindE hm
 have hd := hS.hand [1, 5, 6] [0, 2, 3, 4, 5, 6] rfl rfl
 refine m_stp [7, 1] [(1, [], .pointer (some ⟨b_u1, 0, none⟩))] H4 rfl rfl rfl rfl (o_callx H4 rfl rfl (answer_read_2_ok (b_u0 := b_u0_c0) _ _ hy5 _ _ hd)) (fun _ => rfl) fun _ wd6 v H7 hq => ?_
 clear H4 hd
 obtain ⟨rfl, hq⟩ := hq
 replace hS : SH M X w [Ent.blk b_u0_c0 [.string ⟨⟨y5.2.2⟩⟩], Ent.blk b_u0 [.func (.func 52) ⟨[]⟩ ⟨[.pointer (some ⟨b_u0_c0, 0, none⟩)]⟩], Ent.blk b_u1 [.int .i64 u1_Err, .int .i64 u1_Num, .slice g_u1_Texts.a u1_Texts.length g_u1_Texts.c, .slice g_u1_Numbers.a u1_Numbers.length g_u1_Numbers.c], Ent.im tS u1_Texts g_u1_Texts, Ent.own 3 (tI .i64) u1_Numbers g_u1_Numbers, Ent.gifc 2, Ent.gifc 3] _ := hS.join [1, 5, 6] [0, 2, 3, 4, 5, 6] rfl rfl hq
 clear hq
 refine wl_batch 2 7 [] [1, 3, 4] [(1, [], .pointer (some ⟨b_u1, 0, none⟩)), (3, [], .int .i64 y5.1), (4, [], .bool y5.2.1)] [] H7 (by decide) (by kernel_rfl) trivial fun _ wd8 H9 hb => ?_
 clear H7
 replace hS := hS.below hb
 clear hb
 refine wl_end rfl ?_
 refine w_seq ?_
 refine wl_start ?_
 refine wl_batch 0 3 [(.slice g_u1_Numbers.a u1_Numbers.length g_u1_Numbers.c)] [1, 4, 11, 12] [(1, [], .pointer (some ⟨b_u1, 0, none⟩)), (4, [], .bool y5.2.1), (11, [], .slice g_u1_Numbers.a u1_Numbers.length g_u1_Numbers.c), (12, [], .int .i64 y5.1)] [fun wz => V.at1 ⟨b_u1, 3, none⟩ (.slice g_u1_Numbers.a u1_Numbers.length g_u1_Numbers.c) wz] H9 (by decide) (by kernel_rfl) ⟨((hS.bk 2 rfl).at1 rfl), trivial⟩ fun _ wd10 H11 hb => ?_
 clear H9
 replace hS := hS.below hb
 clear hb
 have hd := hS.hand [] [0, 1, 2, 3, 4, 5, 6] rfl rfl
 refine m_stp [13, 1, 4, 11] [(1, [], .pointer (some ⟨b_u1, 0, none⟩)), (4, [], .bool y5.2.1), (11, [], .slice g_u1_Numbers.a u1_Numbers.length g_u1_Numbers.c)] H11 rfl rfl rfl rfl (o_lit (T := (tI .i64)) (E := 3) (zv := .int .i64 0) [.int .i64 y5.1] ([y5.1] : List Int) [gL []] _ H11 hd rfl (by kernel_rfl) (by kernel_rfl) (by kernel_rfl) (by kernel_rfl) (by kernel_rfl) (by kernel_rfl) (by kernel_rfl) rfl (InnL.cons trivial InnL.nil)) (fun _ => rfl) fun _ wd14 v H15 hq => ?_
 clear H11 hd
 obtain ⟨g12, rfl, hq⟩ := hq
 replace hS : SH M X w [Ent.own 3 (tI .i64) ([y5.1] : List Int) g12, Ent.blk b_u0_c0 [.string ⟨⟨y5.2.2⟩⟩], Ent.blk b_u0 [.func (.func 52) ⟨[]⟩ ⟨[.pointer (some ⟨b_u0_c0, 0, none⟩)]⟩], Ent.blk b_u1 [.int .i64 u1_Err, .int .i64 u1_Num, .slice g_u1_Texts.a u1_Texts.length g_u1_Texts.c, .slice g_u1_Numbers.a u1_Numbers.length g_u1_Numbers.c], Ent.im tS u1_Texts g_u1_Texts, Ent.own 3 (tI .i64) u1_Numbers g_u1_Numbers, Ent.gifc 2, Ent.gifc 3] _ := hS.join [] [0, 1, 2, 3, 4, 5, 6] rfl rfl hq
 clear hq
 obtain ⟨ho16, hm⟩ := chkE hm
 obtain ⟨q17, hq17, hm⟩ := letE hm
 have hd := hS.hand [5, 0] [1, 2, 3, 4, 6, 7] rfl rfl
 refine m_stp [14, 1, 4] [(1, [], .pointer (some ⟨b_u1, 0, none⟩)), (4, [], .bool y5.2.1)] H15 rfl rfl rfl rfl (o_app2 (T := (tI .i64)) (zv := .int .i64 0) (g1 := g_u1_Numbers) (g2 := g12) (l1 := u1_Numbers) (l2 := ([y5.1] : List Int)) q17 hq17.symm H15 hd rfl rfl rfl rfl rfl rfl rfl (by kernel_rfl) (by kernel_rfl) rfl rfl ho16) (fun _ => rfl) fun _ wd18 v H19 hq => ?_
 clear H15 hd
 obtain ⟨g20, rfl, hq⟩ := hq
 replace hS : SH M X w [Ent.own 3 (tI .i64) q17 g20, Ent.own 3 (tI .i64) ([y5.1] : List Int) g12, Ent.blk b_u0_c0 [.string ⟨⟨y5.2.2⟩⟩], Ent.blk b_u0 [.func (.func 52) ⟨[]⟩ ⟨[.pointer (some ⟨b_u0_c0, 0, none⟩)]⟩], Ent.blk b_u1 [.int .i64 u1_Err, .int .i64 u1_Num, .slice g_u1_Texts.a u1_Texts.length g_u1_Texts.c, .slice g_u1_Numbers.a u1_Numbers.length g_u1_Numbers.c], Ent.im tS u1_Texts g_u1_Texts, Ent.gifc 2, Ent.gifc 3] _ := hS.join [5, 0] [1, 2, 3, 4, 6, 7] rfl rfl hq
 clear hq
 refine wl_batch 5 6 [] [4, 14, 15] [(4, [], .bool y5.2.1), (14, [], .slice g20.a q17.length g20.c), (15, [], .pointer (some ⟨b_u1, 3, none⟩))] [] H19 (by decide) (by kernel_rfl) trivial fun _ wd21 H22 hb => ?_
 clear H19
 replace hS := hS.below hb
 clear hb
 have hd := hS.hand [4] [0, 1, 2, 3, 5, 6, 7] rfl rfl
 refine m_stp0 [4] [(4, [], .bool y5.2.1)] H22 rfl rfl rfl (o_store [.int .i64 u1_Err, .int .i64 u1_Num, .slice g_u1_Texts.a u1_Texts.length g_u1_Texts.c, .slice g20.a q17.length g20.c] H22 hd rfl rfl (by kernel_rfl) rfl rfl rfl) rfl fun _ wd23 H24 hq => ?_
 clear H22 hd
 obtain ⟨_, hq⟩ := hq
 replace hS : SH M X w [Ent.blk b_u1 [.int .i64 u1_Err, .int .i64 u1_Num, .slice g_u1_Texts.a u1_Texts.length g_u1_Texts.c, .slice g20.a q17.length g20.c], Ent.own 3 (tI .i64) q17 g20, Ent.own 3 (tI .i64) ([y5.1] : List Int) g12, Ent.blk b_u0_c0 [.string ⟨⟨y5.2.2⟩⟩], Ent.blk b_u0 [.func (.func 52) ⟨[]⟩ ⟨[.pointer (some ⟨b_u0_c0, 0, none⟩)]⟩], Ent.im tS u1_Texts g_u1_Texts, Ent.gifc 2, Ent.gifc 3] _ := hS.join [4] [0, 1, 2, 3, 5, 6, 7] rfl rfl hq
 clear hq
 refine wl_end rfl ?_
 replace hS : SH M X w [Ent.blk b_u1 [.int .i64 u1_Err, .int .i64 u1_Num, .slice g_u1_Texts.a u1_Texts.length g_u1_Texts.c, .slice g20.a q17.length g20.c], Ent.own 3 (tI .i64) q17 g20, Ent.blk b_u0_c0 [.string ⟨⟨y5.2.2⟩⟩], Ent.blk b_u0 [.func (.func 52) ⟨[]⟩ ⟨[.pointer (some ⟨b_u0_c0, 0, none⟩)]⟩], Ent.im tS u1_Texts g_u1_Texts, Ent.gifc 2, Ent.gifc 3] _ := hS.sel [0, 1, 3, 4, 5, 6, 7] rfl
 refine s_reg [] [2] [(2, [], .bool y5.2.1)] [] H24 (by kernel_rfl) trivial fun _ wd25 H26 hb => ?_
 clear H24
 replace hS := hS.below hb
 clear hb
 refine w_ret ?_
 obtain rfl := someE hm
 exact retR1 H26 rfl rfl ⟨_, rfl, g20, rfl, (hS.sel [3, 2, 0, 1] rfl)⟩
theorem answer_read_5_ok {b_u0 : Nat} {b_u0_c0 : Nat} {b_u1 : Nat} {g_u1_Texts : Gh} {g_u1_Numbers : Gh} (u0_c0 : Str) (u1_Err : Int) (u1_Num : Int) (u1_Texts : List Str) (u1_Numbers : List Int) (r : Bool × Str × (List Int)) (hm : answer_read_5 u0_c0 u1_Err u1_Num u1_Texts u1_Numbers = some r) (M : Av) (w : World) (hS : S0 M [Ent.blk b_u0 [.func (.func 52) ⟨[]⟩ ⟨[.pointer (some ⟨b_u0_c0, 0, none⟩)]⟩], Ent.blk b_u0_c0 [.string ⟨⟨u0_c0⟩⟩], Ent.blk b_u1 [.int .i64 u1_Err, .int .i64 u1_Num, .slice g_u1_Texts.a u1_Texts.length g_u1_Texts.c, .slice g_u1_Numbers.a u1_Numbers.length g_u1_Numbers.c], Ent.im tS u1_Texts g_u1_Texts, Ent.own 3 (tI .i64) u1_Numbers g_u1_Numbers, Ent.gifc 2, Ent.gifc 3] w) : DoesX Tryd.prog 58 ⟨[.pointer (some ⟨b_u0, 0, none⟩), .pointer (some ⟨b_u1, 0, none⟩)]⟩ w (fun v w' => ∃ (g901 : Gh), v = .bool r.1 ∧ SH M (fpl [Ent.blk b_u0 [.func (.func 52) ⟨[]⟩ ⟨[.pointer (some ⟨b_u0_c0, 0, none⟩)]⟩], Ent.blk b_u0_c0 [.string ⟨⟨u0_c0⟩⟩], Ent.blk b_u1 [.int .i64 u1_Err, .int .i64 u1_Num, .slice g_u1_Texts.a u1_Texts.length g_u1_Texts.c, .slice g_u1_Numbers.a u1_Numbers.length g_u1_Numbers.c], Ent.im tS u1_Texts g_u1_Texts, Ent.own 3 (tI .i64) u1_Numbers g_u1_Numbers, Ent.gifc 2, Ent.gifc 3]) w [Ent.blk b_u0 [.func (.func 52) ⟨[]⟩ ⟨[.pointer (some ⟨b_u0_c0, 0, none⟩)]⟩], Ent.blk b_u0_c0 [.string ⟨⟨r.2.1⟩⟩], Ent.blk b_u1 [.int .i64 u1_Err, .int .i64 u1_Num, .slice g_u1_Texts.a u1_Texts.length g_u1_Texts.c, .slice g901.a r.2.2.length g901.c], Ent.own 3 (tI .i64) r.2.2 g901] w') := ⟨Tryd.call58 _, answer_read_5_w M   u0_c0 u1_Err u1_Num u1_Texts u1_Numbers r hm w hS⟩

theorem answer_read_3_2_w {b_one_c0 : Nat} {b_one_c0_c0 : Nat} {b_one_c1 : Nat} {g_one_c1_Texts : Gh} {g_one_c1_Numbers : Gh} {b_u0 : Nat} (M : Av) (m : Nat) (one_c0_c0 : Str) (one_c1_Err : Int) (one_c1_Num : Int) (one_c1_Texts : List Str) (one_c1_Numbers : List Int) (r : Bool × Str × (List Int)) (hm : answer_read_3_2 m one_c0_c0 one_c1_Err one_c1_Num one_c1_Texts one_c1_Numbers = some r) (w : World) (hS : S0 M [Ent.blk b_one_c0 [.func (.func 52) ⟨[]⟩ ⟨[.pointer (some ⟨b_one_c0_c0, 0, none⟩)]⟩], Ent.blk b_one_c0_c0 [.string ⟨⟨one_c0_c0⟩⟩], Ent.blk b_one_c1 [.int .i64 one_c1_Err, .int .i64 one_c1_Num, .slice g_one_c1_Texts.a one_c1_Texts.length g_one_c1_Texts.c, .slice g_one_c1_Numbers.a one_c1_Numbers.length g_one_c1_Numbers.c], Ent.im tS one_c1_Texts g_one_c1_Texts, Ent.own 3 (tI .i64) one_c1_Numbers g_one_c1_Numbers, Ent.blk b_u0 [.func (.func 50) ⟨[]⟩ ⟨[.pointer (some ⟨b_one_c0_c0, 0, none⟩)]⟩], Ent.gifc 2, Ent.gifc 3] w) : Calls Tryd.prog 55 ⟨[.func (.func 58) ⟨[]⟩ ⟨[.pointer (some ⟨b_one_c0, 0, none⟩), .pointer (some ⟨b_one_c1, 0, none⟩)]⟩, .pointer (some ⟨b_u0, 0, none⟩)]⟩ w (fun e w' => ∃ v, e = .returned v ∧ ∃ (g901 : Gh), v = .bool r.1 ∧ SH M (fpl [Ent.blk b_one_c0 [.func (.func 52) ⟨[]⟩ ⟨[.pointer (some ⟨b_one_c0_c0, 0, none⟩)]⟩], Ent.blk b_one_c0_c0 [.string ⟨⟨one_c0_c0⟩⟩], Ent.blk b_one_c1 [.int .i64 one_c1_Err, .int .i64 one_c1_Num, .slice g_one_c1_Texts.a one_c1_Texts.length g_one_c1_Texts.c, .slice g_one_c1_Numbers.a one_c1_Numbers.length g_one_c1_Numbers.c], Ent.im tS one_c1_Texts g_one_c1_Texts, Ent.own 3 (tI .i64) one_c1_Numbers g_one_c1_Numbers, Ent.blk b_u0 [.func (.func 50) ⟨[]⟩ ⟨[.pointer (some ⟨b_one_c0_c0, 0, none⟩)]⟩], Ent.gifc 2, Ent.gifc 3]) w [Ent.blk b_one_c0 [.func (.func 52) ⟨[]⟩ ⟨[.pointer (some ⟨b_one_c0_c0, 0, none⟩)]⟩], Ent.blk b_one_c0_c0 [.string ⟨⟨r.2.1⟩⟩], Ent.blk b_one_c1 [.int .i64 one_c1_Err, .int .i64 one_c1_Num, .slice g_one_c1_Texts.a one_c1_Texts.length g_one_c1_Texts.c, .slice g901.a r.2.2.length g901.c], Ent.own 3 (tI .i64) r.2.2 g901, Ent.blk b_u0 [.func (.func 50) ⟨[]⟩ ⟨[.pointer (some ⟨b_one_c0_c0, 0, none⟩)]⟩]] w') := by
 rw [answer_read_3_2] at hm
 have hS0 : SH M (fpl [Ent.blk b_one_c0 [.func (.func 52) ⟨[]⟩ ⟨[.pointer (some ⟨b_one_c0_c0, 0, none⟩)]⟩], Ent.blk b_one_c0_c0 [.string ⟨⟨one_c0_c0⟩⟩], Ent.blk b_one_c1 [.int .i64 one_c1_Err, .int .i64 one_c1_Num, .slice g_one_c1_Texts.a one_c1_Texts.length g_one_c1_Texts.c, .slice g_one_c1_Numbers.a one_c1_Numbers.length g_one_c1_Numbers.c], Ent.im tS one_c1_Texts g_one_c1_Texts, Ent.own 3 (tI .i64) one_c1_Numbers g_one_c1_Numbers, Ent.blk b_u0 [.func (.func 50) ⟨[]⟩ ⟨[.pointer (some ⟨b_one_c0_c0, 0, none⟩)]⟩], Ent.gifc 2, Ent.gifc 3]) w [Ent.blk b_one_c0 [.func (.func 52) ⟨[]⟩ ⟨[.pointer (some ⟨b_one_c0_c0, 0, none⟩)]⟩], Ent.blk b_one_c0_c0 [.string ⟨⟨one_c0_c0⟩⟩], Ent.blk b_one_c1 [.int .i64 one_c1_Err, .int .i64 one_c1_Num, .slice g_one_c1_Texts.a one_c1_Texts.length g_one_c1_Texts.c, .slice g_one_c1_Numbers.a one_c1_Numbers.length g_one_c1_Numbers.c], Ent.im tS one_c1_Texts g_one_c1_Texts, Ent.own 3 (tI .i64) one_c1_Numbers g_one_c1_Numbers, Ent.blk b_u0 [.func (.func 50) ⟨[]⟩ ⟨[.pointer (some ⟨b_one_c0_c0, 0, none⟩)]⟩], Ent.gifc 2, Ent.gifc 3] w := hS
 generalize hX : fpl [Ent.blk b_one_c0 [.func (.func 52) ⟨[]⟩ ⟨[.pointer (some ⟨b_one_c0_c0, 0, none⟩)]⟩], Ent.blk b_one_c0_c0 [.string ⟨⟨one_c0_c0⟩⟩], Ent.blk b_one_c1 [.int .i64 one_c1_Err, .int .i64 one_c1_Num, .slice g_one_c1_Texts.a one_c1_Texts.length g_one_c1_Texts.c, .slice g_one_c1_Numbers.a one_c1_Numbers.length g_one_c1_Numbers.c], Ent.im tS one_c1_Texts g_one_c1_Texts, Ent.own 3 (tI .i64) one_c1_Numbers g_one_c1_Numbers, Ent.blk b_u0 [.func (.func 50) ⟨[]⟩ ⟨[.pointer (some ⟨b_one_c0_c0, 0, none⟩)]⟩], Ent.gifc 2, Ent.gifc 3] = X at hS0 ⊢
 clear hS hX
 have hS := hS0
 clear hS0
 refine calls_entryP Tryd.func55 rfl Tryd.ntmps55 rfl fun _ H => ?_
 refine s_reg [] [0, 1] [(0, [], .func (.func 58) ⟨[]⟩ ⟨[.pointer (some ⟨b_one_c0, 0, none⟩), .pointer (some ⟨b_one_c1, 0, none⟩)]⟩), (1, [], .pointer (some ⟨b_u0, 0, none⟩))] [] H (by kernel_rfl) trivial fun _ wd1 H2 hb => ?_
 clear H
 replace hS := hS.below hb
 clear hb
 refine w_seq ?_
 refine w_seq ?_
 refine wl_start ?_
 refine wl_batch 0 1 [(.func (.func 50) ⟨[]⟩ ⟨[.pointer (some ⟨b_one_c0_c0, 0, none⟩)]⟩)] [0, 1, 5] [(0, [], .func (.func 58) ⟨[]⟩ ⟨[.pointer (some ⟨b_one_c0, 0, none⟩), .pointer (some ⟨b_one_c1, 0, none⟩)]⟩), (1, [], .pointer (some ⟨b_u0, 0, none⟩)), (5, [], .func (.func 50) ⟨[]⟩ ⟨[.pointer (some ⟨b_one_c0_c0, 0, none⟩)]⟩)] [fun wz => V.at1 ⟨b_u0, 0, none⟩ (.func (.func 50) ⟨[]⟩ ⟨[.pointer (some ⟨b_one_c0_c0, 0, none⟩)]⟩) wz] H2 (by decide) (by kernel_rfl) ⟨((hS.bk 5 rfl).at1 rfl), trivial⟩ fun _ wd3 H4 hb => ?_
 clear H2
 replace hS := hS.below hb
 clear hb
 obtain ⟨y5, hy5, hm⟩ := bindE hm
 have hd := hS.hand [1] [0, 2, 3, 4, 5, 6, 7] rfl rfl
 refine m_stp [6, 0, 1] [(0, [], .func (.func 58) ⟨[]⟩ ⟨[.pointer (some ⟨b_one_c0, 0, none⟩), .pointer (some ⟨b_one_c1, 0, none⟩)]⟩), (1, [], .pointer (some ⟨b_u0, 0, none⟩))] H4 rfl rfl rfl rfl (o_callx H4 rfl rfl (answer_read_1_ok (b_u0 := b_one_c0_c0) _ _ _ hy5 _ _ hd)) (fun _ => rfl) fun _ wd6 v H7 hq => ?_
 clear H4 hd
 obtain ⟨rfl, hq⟩ := hq
 replace hS : SH M X w [Ent.blk b_one_c0_c0 [.string ⟨⟨y5.2⟩⟩], Ent.blk b_one_c0 [.func (.func 52) ⟨[]⟩ ⟨[.pointer (some ⟨b_one_c0_c0, 0, none⟩)]⟩], Ent.blk b_one_c1 [.int .i64 one_c1_Err, .int .i64 one_c1_Num, .slice g_one_c1_Texts.a one_c1_Texts.length g_one_c1_Texts.c, .slice g_one_c1_Numbers.a one_c1_Numbers.length g_one_c1_Numbers.c], Ent.im tS one_c1_Texts g_one_c1_Texts, Ent.own 3 (tI .i64) one_c1_Numbers g_one_c1_Numbers, Ent.blk b_u0 [.func (.func 50) ⟨[]⟩ ⟨[.pointer (some ⟨b_one_c0_c0, 0, none⟩)]⟩], Ent.gifc 2, Ent.gifc 3] _ := hS.join [1] [0, 2, 3, 4, 5, 6, 7] rfl rfl hq
 clear hq
 refine wl_batch 2 3 [] [0, 1, 7] [(0, [], .func (.func 58) ⟨[]⟩ ⟨[.pointer (some ⟨b_one_c0, 0, none⟩), .pointer (some ⟨b_one_c1, 0, none⟩)]⟩), (1, [], .pointer (some ⟨b_u0, 0, none⟩)), (7, [], .bool (!y5.1))] [] H7 (by decide) (by kernel_rfl) trivial fun _ wd8 H9 hb => ?_
 clear H7
 replace hS := hS.below hb
 clear hb
 refine wl_end rfl ?_
 refine w_if H9 rfl (fun hc => ?c78) (fun hc => ?_)
 case c78 =>
  replace hm := bT hc hm
  refine s_reg [] [3] [(3, [], .bool false)] [] H9 (by kernel_rfl) trivial fun _ wd10 H11 hb => ?_
  clear H9
  replace hS := hS.below hb
  clear hb
  refine w_ret ?_
  obtain rfl := someE hm
  exact retR1 H11 rfl rfl ⟨_, rfl, g_one_c1_Numbers, rfl, (hS.sel [1, 0, 2, 4, 5] rfl)⟩
 replace hm := bF hc hm
 refine w_skip ?_
 obtain ⟨z12, hz, hm_z12⟩ := bindE hm
 refine w_cut (fun a' w' => ∃ s_z12 : Str × (List Int), z12 = Sum.inr s_z12 ∧ ∃ (g74 : Gh), Fr 23 [] a' ∧ SH M X w [Ent.blk b_one_c0_c0 [.string ⟨⟨s_z12.1⟩⟩], Ent.blk b_one_c0 [.func (.func 52) ⟨[]⟩ ⟨[.pointer (some ⟨b_one_c0_c0, 0, none⟩)]⟩], Ent.blk b_one_c1 [.int .i64 one_c1_Err, .int .i64 one_c1_Num, .slice g_one_c1_Texts.a one_c1_Texts.length g_one_c1_Texts.c, .slice g74.a s_z12.2.length g74.c], Ent.im tS one_c1_Texts g_one_c1_Texts, Ent.own 3 (tI .i64) s_z12.2 g74, Ent.blk b_u0 [.func (.func 50) ⟨[]⟩ ⟨[.pointer (some ⟨b_one_c0_c0, 0, none⟩)]⟩], Ent.gifc 2, Ent.gifc 3] w') ?_ ?_
 ·replace hm := hz
  refine s_reg [] [0, 1, 4] [(0, [], .func (.func 58) ⟨[]⟩ ⟨[.pointer (some ⟨b_one_c0, 0, none⟩), .pointer (some ⟨b_one_c1, 0, none⟩)]⟩), (1, [], .pointer (some ⟨b_u0, 0, none⟩)), (4, [], .bool true)] [] H9 (by kernel_rfl) trivial fun _ wd13 H14 hb => ?_
  clear H9
  replace hS := hS.below hb
  clear hb
  refine w_block ?_
  refine w_loop (fun kk a' w' => ∃ (v15 : Bool) (v16 : Str) (v17 : List Int) (g18 : Gh), answer_read_3_2_L1 m one_c1_Err one_c1_Num one_c1_Texts kk v15 v16 v17 = some _ ∧ Fr 23 [(0, [], .func (.func 58) ⟨[]⟩ ⟨[.pointer (some ⟨b_one_c0, 0, none⟩), .pointer (some ⟨b_one_c1, 0, none⟩)]⟩), (1, [], .pointer (some ⟨b_u0, 0, none⟩)), (4, [], .bool v15)] a' ∧ SH M X w [Ent.blk b_one_c0_c0 [.string ⟨⟨v16⟩⟩], Ent.blk b_one_c0 [.func (.func 52) ⟨[]⟩ ⟨[.pointer (some ⟨b_one_c0_c0, 0, none⟩)]⟩], Ent.blk b_one_c1 [.int .i64 one_c1_Err, .int .i64 one_c1_Num, .slice g_one_c1_Texts.a one_c1_Texts.length g_one_c1_Texts.c, .slice g18.a v17.length g18.c], Ent.im tS one_c1_Texts g_one_c1_Texts, Ent.own 3 (tI .i64) v17 g18, Ent.blk b_u0 [.func (.func 50) ⟨[]⟩ ⟨[.pointer (some ⟨b_one_c0_c0, 0, none⟩)]⟩], Ent.gifc 2, Ent.gifc 3] w') ⟨_, true, y5.2, one_c1_Numbers, g_one_c1_Numbers, hm, FrG.keep (ks := [0, 1, 4]) H14 (by kernel_rfl), hS⟩ ?_
  clear hm H14 hS
  rintro kk _ wd73 ⟨v15, v16, v17, g18, hm, H, hS⟩
  cases kk with
  | zero => exact noneE hm
  | succ kk =>
   rw [answer_read_3_2_L1] at hm
   refine w_seq ?_
   refine w_seq ?_
   refine wl_start ?_
   refine wl_batch 0 1 [(.func (.func 50) ⟨[]⟩ ⟨[.pointer (some ⟨b_one_c0_c0, 0, none⟩)]⟩)] [0, 1, 4, 8] [(0, [], .func (.func 58) ⟨[]⟩ ⟨[.pointer (some ⟨b_one_c0, 0, none⟩), .pointer (some ⟨b_one_c1, 0, none⟩)]⟩), (1, [], .pointer (some ⟨b_u0, 0, none⟩)), (4, [], .bool v15), (8, [], .func (.func 50) ⟨[]⟩ ⟨[.pointer (some ⟨b_one_c0_c0, 0, none⟩)]⟩)] [fun wz => V.at1 ⟨b_u0, 0, none⟩ (.func (.func 50) ⟨[]⟩ ⟨[.pointer (some ⟨b_one_c0_c0, 0, none⟩)]⟩) wz] H (by decide) (by kernel_rfl) ⟨((hS.bk 5 rfl).at1 rfl), trivial⟩ fun _ wd19 H20 hb => ?_
   clear H
   replace hS := hS.below hb
   clear hb
   obtain ⟨y21, hy21, hm⟩ := bindE hm
   have hd := hS.hand [0] [1, 2, 3, 4, 5, 6, 7] rfl rfl
   refine m_stp [9, 0, 1, 4] [(0, [], .func (.func 58) ⟨[]⟩ ⟨[.pointer (some ⟨b_one_c0, 0, none⟩), .pointer (some ⟨b_one_c1, 0, none⟩)]⟩), (1, [], .pointer (some ⟨b_u0, 0, none⟩)), (4, [], .bool v15)] H20 rfl rfl rfl rfl (o_callx H20 rfl rfl (answer_read_1_ok (b_u0 := b_one_c0_c0) _ _ _ hy21 _ _ hd)) (fun _ => rfl) fun _ wd22 v H23 hq => ?_
   clear H20 hd
   obtain ⟨rfl, hq⟩ := hq
   replace hS : SH M X w [Ent.blk b_one_c0_c0 [.string ⟨⟨y21.2⟩⟩], Ent.blk b_one_c0 [.func (.func 52) ⟨[]⟩ ⟨[.pointer (some ⟨b_one_c0_c0, 0, none⟩)]⟩], Ent.blk b_one_c1 [.int .i64 one_c1_Err, .int .i64 one_c1_Num, .slice g_one_c1_Texts.a one_c1_Texts.length g_one_c1_Texts.c, .slice g18.a v17.length g18.c], Ent.im tS one_c1_Texts g_one_c1_Texts, Ent.own 3 (tI .i64) v17 g18, Ent.blk b_u0 [.func (.func 50) ⟨[]⟩ ⟨[.pointer (some ⟨b_one_c0_c0, 0, none⟩)]⟩], Ent.gifc 2, Ent.gifc 3] _ := hS.join [0] [1, 2, 3, 4, 5, 6, 7] rfl rfl hq
   clear hq
   refine wl_batch 2 3 [] [0, 1, 4, 10] [(0, [], .func (.func 58) ⟨[]⟩ ⟨[.pointer (some ⟨b_one_c0, 0, none⟩), .pointer (some ⟨b_one_c1, 0, none⟩)]⟩), (1, [], .pointer (some ⟨b_u0, 0, none⟩)), (4, [], .bool v15), (10, [], .bool (!y21.1))] [] H23 (by decide) (by kernel_rfl) trivial fun _ wd24 H25 hb => ?_
   clear H23
   replace hS := hS.below hb
   clear hb
   refine wl_end rfl ?_
   refine w_if H25 rfl (fun hc => ?_) (fun hc => ?c72)
   case c72 =>
    replace hm := bF hc hm
    refine w_exit rfl ?_
    obtain rfl := someE hm
    exact ⟨_, rfl, g18, FrG.keep (ks := []) H25 (by kernel_rfl), hS⟩
   replace hm := bT hc hm
   refine w_skip ?_
   refine w_seq ?_
   refine w_block ?_
   obtain ⟨z26, hz, hm⟩ := bindE hm
   refine w_cut (fun a' w' => ∃ (g64 : Gh), Fr 23 [(0, [], .func (.func 58) ⟨[]⟩ ⟨[.pointer (some ⟨b_one_c0, 0, none⟩), .pointer (some ⟨b_one_c1, 0, none⟩)]⟩), (1, [], .pointer (some ⟨b_u0, 0, none⟩)), (22, [], .bool z26.1)] a' ∧ SH M X w [Ent.own 3 (tI .i64) z26.2.2 g64, Ent.blk b_one_c0_c0 [.string ⟨⟨z26.2.1⟩⟩], Ent.blk b_one_c0 [.func (.func 52) ⟨[]⟩ ⟨[.pointer (some ⟨b_one_c0_c0, 0, none⟩)]⟩], Ent.blk b_one_c1 [.int .i64 one_c1_Err, .int .i64 one_c1_Num, .slice g_one_c1_Texts.a one_c1_Texts.length g_one_c1_Texts.c, .slice g64.a z26.2.2.length g64.c], Ent.im tS one_c1_Texts g_one_c1_Texts, Ent.blk b_u0 [.func (.func 50) ⟨[]⟩ ⟨[.pointer (some ⟨b_one_c0_c0, 0, none⟩)]⟩], Ent.gifc 2, Ent.gifc 3] w') ?_ ?_
   ·replace hm := hz
    refine wl_start ?_
    obtain ⟨x27, hx27, hm⟩ := letE hm
    refine wl_batch 0 3 [] [0, 1, 13] [(0, [], .func (.func 58) ⟨[]⟩ ⟨[.pointer (some ⟨b_one_c0, 0, none⟩), .pointer (some ⟨b_one_c1, 0, none⟩)]⟩), (1, [], .pointer (some ⟨b_u0, 0, none⟩)), (13, [], .bool x27)] [] H25 (by decide) (by subst hx27; kernel_rfl) trivial fun _ wd28 H29 hb => ?_
    clear H25
    replace hS := hS.below hb
    clear hb
    cases x27
    case false =>
     replace hm := bF rfl hm
     refine m_skipG 13 [14, 0, 1, 13] [(14, [], undef), (0, [], .func (.func 58) ⟨[]⟩ ⟨[.pointer (some ⟨b_one_c0, 0, none⟩), .pointer (some ⟨b_one_c1, 0, none⟩)]⟩), (1, [], .pointer (some ⟨b_u0, 0, none⟩)), (13, [], .bool false)] H29 rfl rfl rfl rfl rfl rfl fun _ H52 => ?_
     clear H29
     refine m_skipG 13 [15, 0, 1, 13] [(15, [], undef), (0, [], .func (.func 58) ⟨[]⟩ ⟨[.pointer (some ⟨b_one_c0, 0, none⟩), .pointer (some ⟨b_one_c1, 0, none⟩)]⟩), (1, [], .pointer (some ⟨b_u0, 0, none⟩)), (13, [], .bool false)] H52 rfl rfl rfl rfl rfl rfl fun _ H53 => ?_
     clear H52
     refine m_skipG 13 [16, 0, 1, 13] [(16, [], undef), (0, [], .func (.func 58) ⟨[]⟩ ⟨[.pointer (some ⟨b_one_c0, 0, none⟩), .pointer (some ⟨b_one_c1, 0, none⟩)]⟩), (1, [], .pointer (some ⟨b_u0, 0, none⟩)), (13, [], .bool false)] H53 rfl rfl rfl rfl rfl rfl fun _ H54 => ?_
     clear H53
     refine wl_batchM 6 9 [] [(0, 0), (1, 0), (18, 0), (19, 1)] [(0, [], .func (.func 58) ⟨[]⟩ ⟨[.pointer (some ⟨b_one_c0, 0, none⟩), .pointer (some ⟨b_one_c1, 0, none⟩)]⟩), (1, [], .pointer (some ⟨b_u0, 0, none⟩)), (18, [], .bool false), (19, [], .func (.func 58) ⟨[]⟩ ⟨[.pointer (some ⟨b_one_c0, 0, none⟩), .pointer (some ⟨b_one_c1, 0, none⟩)]⟩)] [] H54 (by decide) (by kernel_rfl) trivial fun _ wd55 H56 hb => ?_
     clear H54
     replace hS := hS.below hb
     clear hb
     obtain ⟨y57, hy57, hm⟩ := bindE hm
     have hd := hS.hand [1, 0, 2, 3, 4, 6, 7] [3, 5, 6, 7] rfl rfl
     refine m_stpG 18 [20, 0, 1, 18] [(0, [], .func (.func 58) ⟨[]⟩ ⟨[.pointer (some ⟨b_one_c0, 0, none⟩), .pointer (some ⟨b_one_c1, 0, none⟩)]⟩), (1, [], .pointer (some ⟨b_u0, 0, none⟩)), (18, [], .bool false)] H56 rfl rfl rfl rfl (o_callx H56 rfl rfl (answer_read_5_ok (b_u0 := b_one_c0) (b_u0_c0 := b_one_c0_c0) (b_u1 := b_one_c1) (g_u1_Texts := g_one_c1_Texts) (g_u1_Numbers := g18) _ _ _ _ _ _ hy57 _ _ hd)) (fun _ => rfl) fun _ wd60 v H61 hq => ?_
     clear H56 hd
     obtain ⟨g58, rfl, hq⟩ := hq
     replace hS : SH M X w [Ent.blk b_one_c0 [.func (.func 52) ⟨[]⟩ ⟨[.pointer (some ⟨b_one_c0_c0, 0, none⟩)]⟩], Ent.blk b_one_c0_c0 [.string ⟨⟨y57.2.1⟩⟩], Ent.blk b_one_c1 [.int .i64 one_c1_Err, .int .i64 one_c1_Num, .slice g_one_c1_Texts.a one_c1_Texts.length g_one_c1_Texts.c, .slice g58.a y57.2.2.length g58.c], Ent.own 3 (tI .i64) y57.2.2 g58, Ent.im tS one_c1_Texts g_one_c1_Texts, Ent.blk b_u0 [.func (.func 50) ⟨[]⟩ ⟨[.pointer (some ⟨b_one_c0_c0, 0, none⟩)]⟩], Ent.gifc 2, Ent.gifc 3] _ := hS.join [1, 0, 2, 3, 4, 6, 7] [3, 5, 6, 7] rfl rfl hq
     clear hq
     refine wl_batch 10 12 [] [0, 1, 22] [(0, [], .func (.func 58) ⟨[]⟩ ⟨[.pointer (some ⟨b_one_c0, 0, none⟩), .pointer (some ⟨b_one_c1, 0, none⟩)]⟩), (1, [], .pointer (some ⟨b_u0, 0, none⟩)), (22, [], .bool (!y57.1))] [] H61 (by decide) (by kernel_rfl) trivial fun _ wd62 H63 hb => ?_
     clear H61
     replace hS := hS.below hb
     clear hb
     refine wl_end rfl ?_
     obtain rfl := someE hm
     replace hS : SH M X w [Ent.own 3 (tI .i64) y57.2.2 g58, Ent.blk b_one_c0_c0 [.string ⟨⟨y57.2.1⟩⟩], Ent.blk b_one_c0 [.func (.func 52) ⟨[]⟩ ⟨[.pointer (some ⟨b_one_c0_c0, 0, none⟩)]⟩], Ent.blk b_one_c1 [.int .i64 one_c1_Err, .int .i64 one_c1_Num, .slice g_one_c1_Texts.a one_c1_Texts.length g_one_c1_Texts.c, .slice g58.a y57.2.2.length g58.c], Ent.im tS one_c1_Texts g_one_c1_Texts, Ent.blk b_u0 [.func (.func 50) ⟨[]⟩ ⟨[.pointer (some ⟨b_one_c0_c0, 0, none⟩)]⟩], Ent.gifc 2, Ent.gifc 3] _ := hS.sel [3, 1, 0, 2, 4, 5, 6, 7] rfl
     exact ⟨g58, FrG.keep (ks := [0, 1, 22]) H63 (by kernel_rfl), hS⟩
    replace hm := bT rfl hm
    refine wl_batchM 3 4 [(.func (.func 50) ⟨[]⟩ ⟨[.pointer (some ⟨b_one_c0_c0, 0, none⟩)]⟩)] [(0, 0), (1, 0), (13, 0), (14, 1)] [(0, [], .func (.func 58) ⟨[]⟩ ⟨[.pointer (some ⟨b_one_c0, 0, none⟩), .pointer (some ⟨b_one_c1, 0, none⟩)]⟩), (1, [], .pointer (some ⟨b_u0, 0, none⟩)), (13, [], .bool true), (14, [], .func (.func 50) ⟨[]⟩ ⟨[.pointer (some ⟨b_one_c0_c0, 0, none⟩)]⟩)] [fun wz => (true = true ∧ True → V.at1 ⟨b_u0, 0, none⟩ (.func (.func 50) ⟨[]⟩ ⟨[.pointer (some ⟨b_one_c0_c0, 0, none⟩)]⟩) wz)] H29 (by decide) (by kernel_rfl) ⟨fun hg => (hS.bk 5 rfl).at1 rfl, trivial⟩ fun _ wd30 H31 hb => ?_
    clear H29
    replace hS := hS.below hb
    clear hb
    obtain ⟨y32, hy32, hm⟩ := bindE hm
    have hd := hS.hand [0] [1, 2, 3, 4, 5, 6, 7] rfl rfl
    refine m_stpG 13 [15, 0, 1, 13] [(0, [], .func (.func 58) ⟨[]⟩ ⟨[.pointer (some ⟨b_one_c0, 0, none⟩), .pointer (some ⟨b_one_c1, 0, none⟩)]⟩), (1, [], .pointer (some ⟨b_u0, 0, none⟩)), (13, [], .bool true)] H31 rfl rfl rfl rfl (o_callx H31 rfl rfl (answer_read_1_ok (b_u0 := b_one_c0_c0) _ _ _ hy32 _ _ hd)) (fun _ => rfl) fun _ wd33 v H34 hq => ?_
    clear H31 hd
    obtain ⟨rfl, hq⟩ := hq
    replace hS : SH M X w [Ent.blk b_one_c0_c0 [.string ⟨⟨y32.2⟩⟩], Ent.blk b_one_c0 [.func (.func 52) ⟨[]⟩ ⟨[.pointer (some ⟨b_one_c0_c0, 0, none⟩)]⟩], Ent.blk b_one_c1 [.int .i64 one_c1_Err, .int .i64 one_c1_Num, .slice g_one_c1_Texts.a one_c1_Texts.length g_one_c1_Texts.c, .slice g18.a v17.length g18.c], Ent.im tS one_c1_Texts g_one_c1_Texts, Ent.own 3 (tI .i64) v17 g18, Ent.blk b_u0 [.func (.func 50) ⟨[]⟩ ⟨[.pointer (some ⟨b_one_c0_c0, 0, none⟩)]⟩], Ent.gifc 2, Ent.gifc 3] _ := hS.join [0] [1, 2, 3, 4, 5, 6, 7] rfl rfl hq
    clear hq
    obtain ⟨x35, hx35, hm⟩ := letE hm
    refine wl_batch 5 8 [] [0, 1, 18] [(0, [], .func (.func 58) ⟨[]⟩ ⟨[.pointer (some ⟨b_one_c0, 0, none⟩), .pointer (some ⟨b_one_c1, 0, none⟩)]⟩), (1, [], .pointer (some ⟨b_u0, 0, none⟩)), (18, [], .bool x35)] [] H34 (by decide) (by subst hx35; kernel_rfl) trivial fun _ wd36 H37 hb => ?_
    clear H34
    replace hS := hS.below hb
    clear hb
    cases x35
    case true =>
     replace hm := bT rfl hm
     refine m_skipG 18 [19, 0, 1, 18] [(19, [], undef), (0, [], .func (.func 58) ⟨[]⟩ ⟨[.pointer (some ⟨b_one_c0, 0, none⟩), .pointer (some ⟨b_one_c1, 0, none⟩)]⟩), (1, [], .pointer (some ⟨b_u0, 0, none⟩)), (18, [], .bool true)] H37 rfl rfl rfl rfl rfl rfl fun _ H38 => ?_
     clear H37
     refine m_skipG 18 [20, 0, 1, 18] [(20, [], undef), (0, [], .func (.func 58) ⟨[]⟩ ⟨[.pointer (some ⟨b_one_c0, 0, none⟩), .pointer (some ⟨b_one_c1, 0, none⟩)]⟩), (1, [], .pointer (some ⟨b_u0, 0, none⟩)), (18, [], .bool true)] H38 rfl rfl rfl rfl rfl rfl fun _ H39 => ?_
     clear H38
     refine m_skipG 18 [21, 0, 1, 18] [(21, [], undef), (0, [], .func (.func 58) ⟨[]⟩ ⟨[.pointer (some ⟨b_one_c0, 0, none⟩), .pointer (some ⟨b_one_c1, 0, none⟩)]⟩), (1, [], .pointer (some ⟨b_u0, 0, none⟩)), (18, [], .bool true)] H39 rfl rfl rfl rfl rfl rfl fun _ H40 => ?_
     clear H39
     refine wl_batch 11 12 [] [0, 1, 22] [(0, [], .func (.func 58) ⟨[]⟩ ⟨[.pointer (some ⟨b_one_c0, 0, none⟩), .pointer (some ⟨b_one_c1, 0, none⟩)]⟩), (1, [], .pointer (some ⟨b_u0, 0, none⟩)), (22, [], .bool true)] [] H40 (by decide) (by kernel_rfl) trivial fun _ wd41 H42 hb => ?_
     clear H40
     replace hS := hS.below hb
     clear hb
     refine wl_end rfl ?_
     obtain rfl := someE hm
     replace hS : SH M X w [Ent.own 3 (tI .i64) v17 g18, Ent.blk b_one_c0_c0 [.string ⟨⟨y32.2⟩⟩], Ent.blk b_one_c0 [.func (.func 52) ⟨[]⟩ ⟨[.pointer (some ⟨b_one_c0_c0, 0, none⟩)]⟩], Ent.blk b_one_c1 [.int .i64 one_c1_Err, .int .i64 one_c1_Num, .slice g_one_c1_Texts.a one_c1_Texts.length g_one_c1_Texts.c, .slice g18.a v17.length g18.c], Ent.im tS one_c1_Texts g_one_c1_Texts, Ent.blk b_u0 [.func (.func 50) ⟨[]⟩ ⟨[.pointer (some ⟨b_one_c0_c0, 0, none⟩)]⟩], Ent.gifc 2, Ent.gifc 3] _ := hS.sel [4, 0, 1, 2, 3, 5, 6, 7] rfl
     exact ⟨g18, FrG.keep (ks := [0, 1, 22]) H42 (by kernel_rfl), hS⟩
    replace hm := bF rfl hm
    refine wl_batchM 8 9 [] [(0, 0), (1, 0), (18, 0), (19, 1)] [(0, [], .func (.func 58) ⟨[]⟩ ⟨[.pointer (some ⟨b_one_c0, 0, none⟩), .pointer (some ⟨b_one_c1, 0, none⟩)]⟩), (1, [], .pointer (some ⟨b_u0, 0, none⟩)), (18, [], .bool false), (19, [], .func (.func 58) ⟨[]⟩ ⟨[.pointer (some ⟨b_one_c0, 0, none⟩), .pointer (some ⟨b_one_c1, 0, none⟩)]⟩)] [] H37 (by decide) (by kernel_rfl) trivial fun _ wd43 H44 hb => ?_
    clear H37
    replace hS := hS.below hb
    clear hb
    obtain ⟨y45, hy45, hm⟩ := bindE hm
    have hd := hS.hand [1, 0, 2, 3, 4, 6, 7] [3, 5, 6, 7] rfl rfl
    refine m_stpG 18 [20, 0, 1, 18] [(0, [], .func (.func 58) ⟨[]⟩ ⟨[.pointer (some ⟨b_one_c0, 0, none⟩), .pointer (some ⟨b_one_c1, 0, none⟩)]⟩), (1, [], .pointer (some ⟨b_u0, 0, none⟩)), (18, [], .bool false)] H44 rfl rfl rfl rfl (o_callx H44 rfl rfl (answer_read_5_ok (b_u0 := b_one_c0) (b_u0_c0 := b_one_c0_c0) (b_u1 := b_one_c1) (g_u1_Texts := g_one_c1_Texts) (g_u1_Numbers := g18) _ _ _ _ _ _ hy45 _ _ hd)) (fun _ => rfl) fun _ wd48 v H49 hq => ?_
    clear H44 hd
    obtain ⟨g46, rfl, hq⟩ := hq
    replace hS : SH M X w [Ent.blk b_one_c0 [.func (.func 52) ⟨[]⟩ ⟨[.pointer (some ⟨b_one_c0_c0, 0, none⟩)]⟩], Ent.blk b_one_c0_c0 [.string ⟨⟨y45.2.1⟩⟩], Ent.blk b_one_c1 [.int .i64 one_c1_Err, .int .i64 one_c1_Num, .slice g_one_c1_Texts.a one_c1_Texts.length g_one_c1_Texts.c, .slice g46.a y45.2.2.length g46.c], Ent.own 3 (tI .i64) y45.2.2 g46, Ent.im tS one_c1_Texts g_one_c1_Texts, Ent.blk b_u0 [.func (.func 50) ⟨[]⟩ ⟨[.pointer (some ⟨b_one_c0_c0, 0, none⟩)]⟩], Ent.gifc 2, Ent.gifc 3] _ := hS.join [1, 0, 2, 3, 4, 6, 7] [3, 5, 6, 7] rfl rfl hq
    clear hq
    refine wl_batch 10 12 [] [0, 1, 22] [(0, [], .func (.func 58) ⟨[]⟩ ⟨[.pointer (some ⟨b_one_c0, 0, none⟩), .pointer (some ⟨b_one_c1, 0, none⟩)]⟩), (1, [], .pointer (some ⟨b_u0, 0, none⟩)), (22, [], .bool (!y45.1))] [] H49 (by decide) (by kernel_rfl) trivial fun _ wd50 H51 hb => ?_
    clear H49
    replace hS := hS.below hb
    clear hb
    refine wl_end rfl ?_
    obtain rfl := someE hm
    replace hS : SH M X w [Ent.own 3 (tI .i64) y45.2.2 g46, Ent.blk b_one_c0_c0 [.string ⟨⟨y45.2.1⟩⟩], Ent.blk b_one_c0 [.func (.func 52) ⟨[]⟩ ⟨[.pointer (some ⟨b_one_c0_c0, 0, none⟩)]⟩], Ent.blk b_one_c1 [.int .i64 one_c1_Err, .int .i64 one_c1_Num, .slice g_one_c1_Texts.a one_c1_Texts.length g_one_c1_Texts.c, .slice g46.a y45.2.2.length g46.c], Ent.im tS one_c1_Texts g_one_c1_Texts, Ent.blk b_u0 [.func (.func 50) ⟨[]⟩ ⟨[.pointer (some ⟨b_one_c0_c0, 0, none⟩)]⟩], Ent.gifc 2, Ent.gifc 3] _ := hS.sel [3, 1, 0, 2, 4, 5, 6, 7] rfl
    exact ⟨g46, FrG.keep (ks := [0, 1, 22]) H51 (by kernel_rfl), hS⟩
   ·rintro _ wd71 ⟨g64, H, hS⟩
    refine w_if H rfl (fun hc => ?_) (fun hc => ?c70)
    case c70 =>
     replace hm := bF hc hm
     refine w_skip ?_
     refine w_reg [] [0, 1, 4] [(0, [], .func (.func 58) ⟨[]⟩ ⟨[.pointer (some ⟨b_one_c0, 0, none⟩), .pointer (some ⟨b_one_c1, 0, none⟩)]⟩), (1, [], .pointer (some ⟨b_u0, 0, none⟩)), (4, [], .bool false)] [] H (by kernel_rfl) trivial fun _ wd68 H69 hb => ?_
     clear H
     replace hS := hS.below hb
     clear hb
     replace hS : SH M X w [Ent.blk b_one_c0_c0 [.string ⟨⟨z26.2.1⟩⟩], Ent.blk b_one_c0 [.func (.func 52) ⟨[]⟩ ⟨[.pointer (some ⟨b_one_c0_c0, 0, none⟩)]⟩], Ent.blk b_one_c1 [.int .i64 one_c1_Err, .int .i64 one_c1_Num, .slice g_one_c1_Texts.a one_c1_Texts.length g_one_c1_Texts.c, .slice g64.a z26.2.2.length g64.c], Ent.im tS one_c1_Texts g_one_c1_Texts, Ent.own 3 (tI .i64) z26.2.2 g64, Ent.blk b_u0 [.func (.func 50) ⟨[]⟩ ⟨[.pointer (some ⟨b_one_c0_c0, 0, none⟩)]⟩], Ent.gifc 2, Ent.gifc 3] _ := hS.sel [1, 2, 3, 4, 0, 5, 6, 7] rfl
     exact ⟨_, Nat.lt_succ_self _, false, z26.2.1, z26.2.2, g64, hm, FrG.keep (ks := [0, 1, 4]) H69 (by kernel_rfl), hS⟩
    replace hm := bT hc hm
    refine s_reg [] [3] [(3, [], .bool false)] [] H (by kernel_rfl) trivial fun _ wd66 H67 hb => ?_
    clear H
    replace hS := hS.below hb
    clear hb
    refine w_ret ?_
    obtain rfl := someE hm
    have hm := hm_z12
    obtain rfl := someE hm
    exact retR1 H67 rfl rfl ⟨_, rfl, g64, rfl, (hS.sel [2, 1, 3, 0, 5] rfl)⟩
 ·rintro _ wd77 ⟨s_z12, hz, g74, H, hS⟩
  subst hz
  replace hm := sumR hm_z12
  refine s_reg [] [3] [(3, [], .bool true)] [] H (by kernel_rfl) trivial fun _ wd75 H76 hb => ?_
  clear H
  replace hS := hS.below hb
  clear hb
  refine w_ret ?_
  obtain rfl := someE hm
  exact retR1 H76 rfl rfl ⟨_, rfl, g74, rfl, (hS.sel [1, 0, 2, 4, 5] rfl)⟩
theorem answer_read_3_2_ok {b_one_c0 : Nat} {b_one_c0_c0 : Nat} {b_one_c1 : Nat} {g_one_c1_Texts : Gh} {g_one_c1_Numbers : Gh} {b_u0 : Nat} (m : Nat) (one_c0_c0 : Str) (one_c1_Err : Int) (one_c1_Num : Int) (one_c1_Texts : List Str) (one_c1_Numbers : List Int) (r : Bool × Str × (List Int)) (hm : answer_read_3_2 m one_c0_c0 one_c1_Err one_c1_Num one_c1_Texts one_c1_Numbers = some r) (M : Av) (w : World) (hS : S0 M [Ent.blk b_one_c0 [.func (.func 52) ⟨[]⟩ ⟨[.pointer (some ⟨b_one_c0_c0, 0, none⟩)]⟩], Ent.blk b_one_c0_c0 [.string ⟨⟨one_c0_c0⟩⟩], Ent.blk b_one_c1 [.int .i64 one_c1_Err, .int .i64 one_c1_Num, .slice g_one_c1_Texts.a one_c1_Texts.length g_one_c1_Texts.c, .slice g_one_c1_Numbers.a one_c1_Numbers.length g_one_c1_Numbers.c], Ent.im tS one_c1_Texts g_one_c1_Texts, Ent.own 3 (tI .i64) one_c1_Numbers g_one_c1_Numbers, Ent.blk b_u0 [.func (.func 50) ⟨[]⟩ ⟨[.pointer (some ⟨b_one_c0_c0, 0, none⟩)]⟩], Ent.gifc 2, Ent.gifc 3] w) : DoesX Tryd.prog 55 ⟨[.func (.func 58) ⟨[]⟩ ⟨[.pointer (some ⟨b_one_c0, 0, none⟩), .pointer (some ⟨b_one_c1, 0, none⟩)]⟩, .pointer (some ⟨b_u0, 0, none⟩)]⟩ w (fun v w' => ∃ (g901 : Gh), v = .bool r.1 ∧ SH M (fpl [Ent.blk b_one_c0 [.func (.func 52) ⟨[]⟩ ⟨[.pointer (some ⟨b_one_c0_c0, 0, none⟩)]⟩], Ent.blk b_one_c0_c0 [.string ⟨⟨one_c0_c0⟩⟩], Ent.blk b_one_c1 [.int .i64 one_c1_Err, .int .i64 one_c1_Num, .slice g_one_c1_Texts.a one_c1_Texts.length g_one_c1_Texts.c, .slice g_one_c1_Numbers.a one_c1_Numbers.length g_one_c1_Numbers.c], Ent.im tS one_c1_Texts g_one_c1_Texts, Ent.own 3 (tI .i64) one_c1_Numbers g_one_c1_Numbers, Ent.blk b_u0 [.func (.func 50) ⟨[]⟩ ⟨[.pointer (some ⟨b_one_c0_c0, 0, none⟩)]⟩], Ent.gifc 2, Ent.gifc 3]) w [Ent.blk b_one_c0 [.func (.func 52) ⟨[]⟩ ⟨[.pointer (some ⟨b_one_c0_c0, 0, none⟩)]⟩], Ent.blk b_one_c0_c0 [.string ⟨⟨r.2.1⟩⟩], Ent.blk b_one_c1 [.int .i64 one_c1_Err, .int .i64 one_c1_Num, .slice g_one_c1_Texts.a one_c1_Texts.length g_one_c1_Texts.c, .slice g901.a r.2.2.length g901.c], Ent.own 3 (tI .i64) r.2.2 g901, Ent.blk b_u0 [.func (.func 50) ⟨[]⟩ ⟨[.pointer (some ⟨b_one_c0_c0, 0, none⟩)]⟩]] w') := ⟨Tryd.call55 _, answer_read_3_2_w M m   one_c0_c0 one_c1_Err one_c1_Num one_c1_Texts one_c1_Numbers r hm w hS⟩

theorem answer_read_w  (M : Av) (m : Nat) (s : Str) (r : TAnswer × Bool) (hm : answer_read m s = some r) (w : World) (hS : S0 M [Ent.gifc 2, Ent.gifc 3] w) : Calls Tryd.prog 32 ⟨[.string ⟨⟨s⟩⟩]⟩ w (fun e w' => ∃ v, e = .returned v ∧ ∃ (g901 : Gh) (g903 : Gh), v = .tuple ⟨[.agg ⟨[.int .i64 r.1.Err, .int .i64 r.1.Num, .slice g901.a r.1.Texts.length g901.c, .slice g903.a r.1.Numbers.length g903.c]⟩, .bool r.2]⟩ ∧ SH M (fpl [Ent.gifc 2, Ent.gifc 3]) w [Ent.im tS r.1.Texts g901, Ent.own 3 (tI .i64) r.1.Numbers g903] w') := by
 rw [answer_read] at hm
 have hS0 : SH M (fpl [Ent.gifc 2, Ent.gifc 3]) w [Ent.gifc 2, Ent.gifc 3] w := hS
 generalize hX : fpl [Ent.gifc 2, Ent.gifc 3] = X at hS0 ⊢
 clear hS hX
 have hS := hS0
 clear hS0
 refine calls_entryP Tryd.func32 rfl Tryd.ntmps32 rfl fun _ H => ?_
 refine w_seq ?_
 refine wl_start ?_
 have hd := hS.hand [] [0, 1] rfl rfl
 refine m_stp [2, 0] [(0, [], .string ⟨⟨s⟩⟩)] H rfl rfl rfl rfl (o_alloc [.int .i64 0, .int .i64 0, .slice none 0 0, .slice none 0 0] (z := .agg ⟨[.int .i64 0, .int .i64 0, .slice none 0 0, .slice none 0 0]⟩) hd (by kernel_rfl) rfl) (fun _ => rfl) fun _ wd2 v H3 hq => ?_
 clear H hd
 obtain ⟨b1, rfl, hq⟩ := hq
 replace hS : SH M X w [Ent.blk b1 [.int .i64 0, .int .i64 0, .slice none 0 0, .slice none 0 0], Ent.gifc 2, Ent.gifc 3] _ := hS.join [] [0, 1] rfl rfl hq
 clear hq
 refine wl_batch 1 2 [] [0, 2] [(0, [], .string ⟨⟨s⟩⟩), (2, [], .pointer (some ⟨b1, 0, none⟩))] [] H3 (by decide) (by kernel_rfl) trivial fun _ wd4 H5 hb => ?_
 clear H3
 replace hS := hS.below hb
 clear hb
 refine wl_end rfl ?_
 refine w_seq ?_
 refine wl_start ?_
 have hd := hS.hand [] [0, 1, 2] rfl rfl
 refine m_stp [4, 0, 2] [(0, [], .string ⟨⟨s⟩⟩), (2, [], .pointer (some ⟨b1, 0, none⟩))] H5 rfl rfl rfl rfl (o_alloc [.int .i64 0, .int .i64 0, .slice none 0 0, .slice none 0 0] (z := .agg ⟨[.int .i64 0, .int .i64 0, .slice none 0 0, .slice none 0 0]⟩) hd (by kernel_rfl) rfl) (fun _ => rfl) fun _ wd7 v H8 hq => ?_
 clear H5 hd
 obtain ⟨b6, rfl, hq⟩ := hq
 replace hS : SH M X w [Ent.blk b6 [.int .i64 0, .int .i64 0, .slice none 0 0, .slice none 0 0], Ent.blk b1 [.int .i64 0, .int .i64 0, .slice none 0 0, .slice none 0 0], Ent.gifc 2, Ent.gifc 3] _ := hS.join [] [0, 1, 2] rfl rfl hq
 clear hq
 refine wl_end rfl ?_
 refine w_seq ?_
 refine wl_start ?_
 refine wl_batch 0 1 [] [2, 4, 13] [(2, [], .pointer (some ⟨b1, 0, none⟩)), (4, [], .pointer (some ⟨b6, 0, none⟩)), (13, [], .string ⟨⟨s⟩⟩)] [] H8 (by decide) (by kernel_rfl) trivial fun _ wd9 H10 hb => ?_
 clear H8
 replace hS := hS.below hb
 clear hb
 have hd := hS.hand [] [0, 1, 2, 3] rfl rfl
 refine m_stp [5, 2, 4, 13] [(2, [], .pointer (some ⟨b1, 0, none⟩)), (4, [], .pointer (some ⟨b6, 0, none⟩)), (13, [], .string ⟨⟨s⟩⟩)] H10 rfl rfl rfl rfl (o_alloc [.string ⟨⟨[]⟩⟩] (z := .string ⟨⟨[]⟩⟩) hd (by kernel_rfl) rfl) (fun _ => rfl) fun _ wd12 v H13 hq => ?_
 clear H10 hd
 obtain ⟨b11, rfl, hq⟩ := hq
 replace hS : SH M X w [Ent.blk b11 [.string ⟨⟨[]⟩⟩], Ent.blk b6 [.int .i64 0, .int .i64 0, .slice none 0 0, .slice none 0 0], Ent.blk b1 [.int .i64 0, .int .i64 0, .slice none 0 0, .slice none 0 0], Ent.gifc 2, Ent.gifc 3] _ := hS.join [] [0, 1, 2, 3] rfl rfl hq
 clear hq
 have hd := hS.hand [0] [1, 2, 3, 4] rfl rfl
 refine m_stp0 [2, 4, 5] [(2, [], .pointer (some ⟨b1, 0, none⟩)), (4, [], .pointer (some ⟨b6, 0, none⟩)), (5, [], .pointer (some ⟨b11, 0, none⟩))] H13 rfl rfl rfl (o_store [.string ⟨⟨s⟩⟩] H13 hd rfl rfl (by kernel_rfl) rfl rfl rfl) rfl fun _ wd14 H15 hq => ?_
 clear H13 hd
 obtain ⟨_, hq⟩ := hq
 replace hS : SH M X w [Ent.blk b11 [.string ⟨⟨s⟩⟩], Ent.blk b6 [.int .i64 0, .int .i64 0, .slice none 0 0, .slice none 0 0], Ent.blk b1 [.int .i64 0, .int .i64 0, .slice none 0 0, .slice none 0 0], Ent.gifc 2, Ent.gifc 3] _ := hS.join [0] [1, 2, 3, 4] rfl rfl hq
 clear hq
 refine wl_end rfl ?_
 refine w_seq ?_
 refine wl_start ?_
 refine wl_batch 0 1 [] [2, 4, 5, 14] [(2, [], .pointer (some ⟨b1, 0, none⟩)), (4, [], .pointer (some ⟨b6, 0, none⟩)), (5, [], .pointer (some ⟨b11, 0, none⟩)), (14, [], .func (.func 50) ⟨[]⟩ ⟨[.pointer (some ⟨b11, 0, none⟩)]⟩)] [] H15 (by decide) (by kernel_rfl) trivial fun _ wd16 H17 hb => ?_
 clear H15
 replace hS := hS.below hb
 clear hb
 have hd := hS.hand [] [0, 1, 2, 3, 4] rfl rfl
 refine m_stp [6, 2, 4, 5, 14] [(2, [], .pointer (some ⟨b1, 0, none⟩)), (4, [], .pointer (some ⟨b6, 0, none⟩)), (5, [], .pointer (some ⟨b11, 0, none⟩)), (14, [], .func (.func 50) ⟨[]⟩ ⟨[.pointer (some ⟨b11, 0, none⟩)]⟩)] H17 rfl rfl rfl rfl (o_alloc [.nilFunc] (z := .nilFunc) hd (by kernel_rfl) rfl) (fun _ => rfl) fun _ wd19 v H20 hq => ?_
 clear H17 hd
 obtain ⟨b18, rfl, hq⟩ := hq
 replace hS : SH M X w [Ent.blk b18 [.nilFunc], Ent.blk b11 [.string ⟨⟨s⟩⟩], Ent.blk b6 [.int .i64 0, .int .i64 0, .slice none 0 0, .slice none 0 0], Ent.blk b1 [.int .i64 0, .int .i64 0, .slice none 0 0, .slice none 0 0], Ent.gifc 2, Ent.gifc 3] _ := hS.join [] [0, 1, 2, 3, 4] rfl rfl hq
 clear hq
 have hd := hS.hand [0] [1, 2, 3, 4, 5] rfl rfl
 refine m_stp0 [2, 4, 5, 6] [(2, [], .pointer (some ⟨b1, 0, none⟩)), (4, [], .pointer (some ⟨b6, 0, none⟩)), (5, [], .pointer (some ⟨b11, 0, none⟩)), (6, [], .pointer (some ⟨b18, 0, none⟩))] H20 rfl rfl rfl (o_store [.func (.func 50) ⟨[]⟩ ⟨[.pointer (some ⟨b11, 0, none⟩)]⟩] H20 hd rfl rfl (by kernel_rfl) rfl rfl rfl) rfl fun _ wd21 H22 hq => ?_
 clear H20 hd
 obtain ⟨_, hq⟩ := hq
 replace hS : SH M X w [Ent.blk b18 [.func (.func 50) ⟨[]⟩ ⟨[.pointer (some ⟨b11, 0, none⟩)]⟩], Ent.blk b11 [.string ⟨⟨s⟩⟩], Ent.blk b6 [.int .i64 0, .int .i64 0, .slice none 0 0, .slice none 0 0], Ent.blk b1 [.int .i64 0, .int .i64 0, .slice none 0 0, .slice none 0 0], Ent.gifc 2, Ent.gifc 3] _ := hS.join [0] [1, 2, 3, 4, 5] rfl rfl hq
 clear hq
 refine wl_end rfl ?_
 refine w_seq ?_
 refine wl_start ?_
 refine wl_batch 0 1 [] [2, 4, 5, 6, 15] [(2, [], .pointer (some ⟨b1, 0, none⟩)), (4, [], .pointer (some ⟨b6, 0, none⟩)), (5, [], .pointer (some ⟨b11, 0, none⟩)), (6, [], .pointer (some ⟨b18, 0, none⟩)), (15, [], .func (.func 52) ⟨[]⟩ ⟨[.pointer (some ⟨b11, 0, none⟩)]⟩)] [] H22 (by decide) (by kernel_rfl) trivial fun _ wd23 H24 hb => ?_
 clear H22
 replace hS := hS.below hb
 clear hb
 have hd := hS.hand [] [0, 1, 2, 3, 4, 5] rfl rfl
 refine m_stp [7, 2, 4, 5, 6, 15] [(2, [], .pointer (some ⟨b1, 0, none⟩)), (4, [], .pointer (some ⟨b6, 0, none⟩)), (5, [], .pointer (some ⟨b11, 0, none⟩)), (6, [], .pointer (some ⟨b18, 0, none⟩)), (15, [], .func (.func 52) ⟨[]⟩ ⟨[.pointer (some ⟨b11, 0, none⟩)]⟩)] H24 rfl rfl rfl rfl (o_alloc [.nilFunc] (z := .nilFunc) hd (by kernel_rfl) rfl) (fun _ => rfl) fun _ wd26 v H27 hq => ?_
 clear H24 hd
 obtain ⟨b25, rfl, hq⟩ := hq
 replace hS : SH M X w [Ent.blk b25 [.nilFunc], Ent.blk b18 [.func (.func 50) ⟨[]⟩ ⟨[.pointer (some ⟨b11, 0, none⟩)]⟩], Ent.blk b11 [.string ⟨⟨s⟩⟩], Ent.blk b6 [.int .i64 0, .int .i64 0, .slice none 0 0, .slice none 0 0], Ent.blk b1 [.int .i64 0, .int .i64 0, .slice none 0 0, .slice none 0 0], Ent.gifc 2, Ent.gifc 3] _ := hS.join [] [0, 1, 2, 3, 4, 5] rfl rfl hq
 clear hq
 have hd := hS.hand [0] [1, 2, 3, 4, 5, 6] rfl rfl
 refine m_stp0 [2, 4, 5, 6, 7] [(2, [], .pointer (some ⟨b1, 0, none⟩)), (4, [], .pointer (some ⟨b6, 0, none⟩)), (5, [], .pointer (some ⟨b11, 0, none⟩)), (6, [], .pointer (some ⟨b18, 0, none⟩)), (7, [], .pointer (some ⟨b25, 0, none⟩))] H27 rfl rfl rfl (o_store [.func (.func 52) ⟨[]⟩ ⟨[.pointer (some ⟨b11, 0, none⟩)]⟩] H27 hd rfl rfl (by kernel_rfl) rfl rfl rfl) rfl fun _ wd28 H29 hq => ?_
 clear H27 hd
 obtain ⟨_, hq⟩ := hq
 replace hS : SH M X w [Ent.blk b25 [.func (.func 52) ⟨[]⟩ ⟨[.pointer (some ⟨b11, 0, none⟩)]⟩], Ent.blk b18 [.func (.func 50) ⟨[]⟩ ⟨[.pointer (some ⟨b11, 0, none⟩)]⟩], Ent.blk b11 [.string ⟨⟨s⟩⟩], Ent.blk b6 [.int .i64 0, .int .i64 0, .slice none 0 0, .slice none 0 0], Ent.blk b1 [.int .i64 0, .int .i64 0, .slice none 0 0, .slice none 0 0], Ent.gifc 2, Ent.gifc 3] _ := hS.join [0] [1, 2, 3, 4, 5, 6] rfl rfl hq
 clear hq
 refine wl_end rfl ?_
 refine s_reg [] [2, 4, 5, 6, 7, 8] [(2, [], .pointer (some ⟨b1, 0, none⟩)), (4, [], .pointer (some ⟨b6, 0, none⟩)), (5, [], .pointer (some ⟨b11, 0, none⟩)), (6, [], .pointer (some ⟨b18, 0, none⟩)), (7, [], .pointer (some ⟨b25, 0, none⟩)), (8, [], .func (.func 55) ⟨[]⟩ ⟨[.pointer (some ⟨b18, 0, none⟩)]⟩)] [] H29 (by kernel_rfl) trivial fun _ wd30 H31 hb => ?_
 clear H29
 replace hS := hS.below hb
 clear hb
 refine w_seq ?_
 refine wl_start ?_
 refine wl_batch 0 1 [(.func (.func 52) ⟨[]⟩ ⟨[.pointer (some ⟨b11, 0, none⟩)]⟩)] [2, 4, 5, 6, 7, 8, 18] [(2, [], .pointer (some ⟨b1, 0, none⟩)), (4, [], .pointer (some ⟨b6, 0, none⟩)), (5, [], .pointer (some ⟨b11, 0, none⟩)), (6, [], .pointer (some ⟨b18, 0, none⟩)), (7, [], .pointer (some ⟨b25, 0, none⟩)), (8, [], .func (.func 55) ⟨[]⟩ ⟨[.pointer (some ⟨b18, 0, none⟩)]⟩), (18, [], .func (.func 52) ⟨[]⟩ ⟨[.pointer (some ⟨b11, 0, none⟩)]⟩)] [fun wz => V.at1 ⟨b25, 0, none⟩ (.func (.func 52) ⟨[]⟩ ⟨[.pointer (some ⟨b11, 0, none⟩)]⟩) wz] H31 (by decide) (by kernel_rfl) ⟨((hS.bk 0 rfl).at1 rfl), trivial⟩ fun _ wd32 H33 hb => ?_
 clear H31
 replace hS := hS.below hb
 clear hb
 obtain ⟨y34, hy34, hm⟩ := bindE hm
 have hd := hS.hand [2, 5, 6] [0, 1, 3, 4, 5, 6] rfl rfl
 refine m_stp [19, 2, 4, 5, 6, 7, 8] [(2, [], .pointer (some ⟨b1, 0, none⟩)), (4, [], .pointer (some ⟨b6, 0, none⟩)), (5, [], .pointer (some ⟨b11, 0, none⟩)), (6, [], .pointer (some ⟨b18, 0, none⟩)), (7, [], .pointer (some ⟨b25, 0, none⟩)), (8, [], .func (.func 55) ⟨[]⟩ ⟨[.pointer (some ⟨b18, 0, none⟩)]⟩)] H33 rfl rfl rfl rfl (o_callx H33 rfl rfl (answer_read_2_ok (b_u0 := b11) _ _ hy34 _ _ hd)) (fun _ => rfl) fun _ wd35 v H36 hq => ?_
 clear H33 hd
 obtain ⟨rfl, hq⟩ := hq
 replace hS : SH M X w [Ent.blk b11 [.string ⟨⟨y34.2.2⟩⟩], Ent.blk b25 [.func (.func 52) ⟨[]⟩ ⟨[.pointer (some ⟨b11, 0, none⟩)]⟩], Ent.blk b18 [.func (.func 50) ⟨[]⟩ ⟨[.pointer (some ⟨b11, 0, none⟩)]⟩], Ent.blk b6 [.int .i64 0, .int .i64 0, .slice none 0 0, .slice none 0 0], Ent.blk b1 [.int .i64 0, .int .i64 0, .slice none 0 0, .slice none 0 0], Ent.gifc 2, Ent.gifc 3] _ := hS.join [2, 5, 6] [0, 1, 3, 4, 5, 6] rfl rfl hq
 clear hq
 refine wl_batch 2 7 [] [2, 4, 5, 6, 7, 8, 9, 10] [(2, [], .pointer (some ⟨b1, 0, none⟩)), (4, [], .pointer (some ⟨b6, 0, none⟩)), (5, [], .pointer (some ⟨b11, 0, none⟩)), (6, [], .pointer (some ⟨b18, 0, none⟩)), (7, [], .pointer (some ⟨b25, 0, none⟩)), (8, [], .func (.func 55) ⟨[]⟩ ⟨[.pointer (some ⟨b18, 0, none⟩)]⟩), (9, [], .int .i64 y34.1), (10, [], .bool y34.2.1)] [] H36 (by decide) (by kernel_rfl) trivial fun _ wd37 H38 hb => ?_
 clear H36
 replace hS := hS.below hb
 clear hb
 refine wl_end rfl ?_
 refine w_seq ?_
 obtain ⟨z39, hz, hm⟩ := bindE hm
 refine w_cut (fun a' w' => Fr 66 [(2, [], .pointer (some ⟨b1, 0, none⟩)), (4, [], .pointer (some ⟨b6, 0, none⟩)), (5, [], .pointer (some ⟨b11, 0, none⟩)), (6, [], .pointer (some ⟨b18, 0, none⟩)), (7, [], .pointer (some ⟨b25, 0, none⟩)), (8, [], .func (.func 55) ⟨[]⟩ ⟨[.pointer (some ⟨b18, 0, none⟩)]⟩), (9, [], .int .i64 y34.1), (28, [], .bool z39.1)] a' ∧ SH M X w [Ent.blk b11 [.string ⟨⟨z39.2⟩⟩], Ent.blk b25 [.func (.func 52) ⟨[]⟩ ⟨[.pointer (some ⟨b11, 0, none⟩)]⟩], Ent.blk b18 [.func (.func 50) ⟨[]⟩ ⟨[.pointer (some ⟨b11, 0, none⟩)]⟩], Ent.blk b6 [.int .i64 0, .int .i64 0, .slice none 0 0, .slice none 0 0], Ent.blk b1 [.int .i64 0, .int .i64 0, .slice none 0 0, .slice none 0 0], Ent.gifc 2, Ent.gifc 3] w') ?_ ?_
 ·replace hm := hz
  refine wl_start ?_
  obtain ⟨x40, hx40, hm⟩ := letE hm
  refine wl_batch 0 3 [] [2, 4, 5, 6, 7, 8, 9, 24] [(2, [], .pointer (some ⟨b1, 0, none⟩)), (4, [], .pointer (some ⟨b6, 0, none⟩)), (5, [], .pointer (some ⟨b11, 0, none⟩)), (6, [], .pointer (some ⟨b18, 0, none⟩)), (7, [], .pointer (some ⟨b25, 0, none⟩)), (8, [], .func (.func 55) ⟨[]⟩ ⟨[.pointer (some ⟨b18, 0, none⟩)]⟩), (9, [], .int .i64 y34.1), (24, [], .bool x40)] [] H38 (by decide) (by subst hx40; kernel_rfl) trivial fun _ wd41 H42 hb => ?_
  clear H38
  replace hS := hS.below hb
  clear hb
  cases x40
  case true =>
   replace hm := bT rfl hm
   refine m_skipG 24 [25, 2, 4, 5, 6, 7, 8, 9, 24] [(25, [], undef), (2, [], .pointer (some ⟨b1, 0, none⟩)), (4, [], .pointer (some ⟨b6, 0, none⟩)), (5, [], .pointer (some ⟨b11, 0, none⟩)), (6, [], .pointer (some ⟨b18, 0, none⟩)), (7, [], .pointer (some ⟨b25, 0, none⟩)), (8, [], .func (.func 55) ⟨[]⟩ ⟨[.pointer (some ⟨b18, 0, none⟩)]⟩), (9, [], .int .i64 y34.1), (24, [], .bool true)] H42 rfl rfl rfl rfl rfl rfl fun _ H43 => ?_
   clear H42
   refine m_skipG 24 [26, 2, 4, 5, 6, 7, 8, 9, 24] [(26, [], undef), (2, [], .pointer (some ⟨b1, 0, none⟩)), (4, [], .pointer (some ⟨b6, 0, none⟩)), (5, [], .pointer (some ⟨b11, 0, none⟩)), (6, [], .pointer (some ⟨b18, 0, none⟩)), (7, [], .pointer (some ⟨b25, 0, none⟩)), (8, [], .func (.func 55) ⟨[]⟩ ⟨[.pointer (some ⟨b18, 0, none⟩)]⟩), (9, [], .int .i64 y34.1), (24, [], .bool true)] H43 rfl rfl rfl rfl rfl rfl fun _ H44 => ?_
   clear H43
   refine m_skipG 24 [27, 2, 4, 5, 6, 7, 8, 9, 24] [(27, [], undef), (2, [], .pointer (some ⟨b1, 0, none⟩)), (4, [], .pointer (some ⟨b6, 0, none⟩)), (5, [], .pointer (some ⟨b11, 0, none⟩)), (6, [], .pointer (some ⟨b18, 0, none⟩)), (7, [], .pointer (some ⟨b25, 0, none⟩)), (8, [], .func (.func 55) ⟨[]⟩ ⟨[.pointer (some ⟨b18, 0, none⟩)]⟩), (9, [], .int .i64 y34.1), (24, [], .bool true)] H44 rfl rfl rfl rfl rfl rfl fun _ H45 => ?_
   clear H44
   refine wl_batch 6 7 [] [2, 4, 5, 6, 7, 8, 9, 28] [(2, [], .pointer (some ⟨b1, 0, none⟩)), (4, [], .pointer (some ⟨b6, 0, none⟩)), (5, [], .pointer (some ⟨b11, 0, none⟩)), (6, [], .pointer (some ⟨b18, 0, none⟩)), (7, [], .pointer (some ⟨b25, 0, none⟩)), (8, [], .func (.func 55) ⟨[]⟩ ⟨[.pointer (some ⟨b18, 0, none⟩)]⟩), (9, [], .int .i64 y34.1), (28, [], .bool true)] [] H45 (by decide) (by kernel_rfl) trivial fun _ wd46 H47 hb => ?_
   clear H45
   replace hS := hS.below hb
   clear hb
   refine wl_end rfl ?_
   obtain rfl := someE hm
   exact ⟨FrG.keep (ks := [2, 4, 5, 6, 7, 8, 9, 28]) H47 (by kernel_rfl), hS⟩
  replace hm := bF rfl hm
  refine wl_batchM 3 4 [(.func (.func 50) ⟨[]⟩ ⟨[.pointer (some ⟨b11, 0, none⟩)]⟩)] [(2, 0), (4, 0), (5, 0), (6, 0), (7, 0), (8, 0), (9, 0), (24, 0), (25, 1)] [(2, [], .pointer (some ⟨b1, 0, none⟩)), (4, [], .pointer (some ⟨b6, 0, none⟩)), (5, [], .pointer (some ⟨b11, 0, none⟩)), (6, [], .pointer (some ⟨b18, 0, none⟩)), (7, [], .pointer (some ⟨b25, 0, none⟩)), (8, [], .func (.func 55) ⟨[]⟩ ⟨[.pointer (some ⟨b18, 0, none⟩)]⟩), (9, [], .int .i64 y34.1), (24, [], .bool false), (25, [], .func (.func 50) ⟨[]⟩ ⟨[.pointer (some ⟨b11, 0, none⟩)]⟩)] [fun wz => (false = false ∧ True → V.at1 ⟨b18, 0, none⟩ (.func (.func 50) ⟨[]⟩ ⟨[.pointer (some ⟨b11, 0, none⟩)]⟩) wz)] H42 (by decide) (by kernel_rfl) ⟨fun hg => (hS.bk 2 rfl).at1 rfl, trivial⟩ fun _ wd48 H49 hb => ?_
  clear H42
  replace hS := hS.below hb
  clear hb
  obtain ⟨y50, hy50, hm⟩ := bindE hm
  have hd := hS.hand [0] [1, 2, 3, 4, 5, 6] rfl rfl
  refine m_stpG 24 [26, 2, 4, 5, 6, 7, 8, 9, 24] [(2, [], .pointer (some ⟨b1, 0, none⟩)), (4, [], .pointer (some ⟨b6, 0, none⟩)), (5, [], .pointer (some ⟨b11, 0, none⟩)), (6, [], .pointer (some ⟨b18, 0, none⟩)), (7, [], .pointer (some ⟨b25, 0, none⟩)), (8, [], .func (.func 55) ⟨[]⟩ ⟨[.pointer (some ⟨b18, 0, none⟩)]⟩), (9, [], .int .i64 y34.1), (24, [], .bool false)] H49 rfl rfl rfl rfl (o_callx H49 rfl rfl (answer_read_1_ok (b_u0 := b11) _ _ _ hy50 _ _ hd)) (fun _ => rfl) fun _ wd51 v H52 hq => ?_
  clear H49 hd
  obtain ⟨rfl, hq⟩ := hq
  replace hS : SH M X w [Ent.blk b11 [.string ⟨⟨y50.2⟩⟩], Ent.blk b25 [.func (.func 52) ⟨[]⟩ ⟨[.pointer (some ⟨b11, 0, none⟩)]⟩], Ent.blk b18 [.func (.func 50) ⟨[]⟩ ⟨[.pointer (some ⟨b11, 0, none⟩)]⟩], Ent.blk b6 [.int .i64 0, .int .i64 0, .slice none 0 0, .slice none 0 0], Ent.blk b1 [.int .i64 0, .int .i64 0, .slice none 0 0, .slice none 0 0], Ent.gifc 2, Ent.gifc 3] _ := hS.join [0] [1, 2, 3, 4, 5, 6] rfl rfl hq
  clear hq
  refine wl_batch 5 7 [] [2, 4, 5, 6, 7, 8, 9, 28] [(2, [], .pointer (some ⟨b1, 0, none⟩)), (4, [], .pointer (some ⟨b6, 0, none⟩)), (5, [], .pointer (some ⟨b11, 0, none⟩)), (6, [], .pointer (some ⟨b18, 0, none⟩)), (7, [], .pointer (some ⟨b25, 0, none⟩)), (8, [], .func (.func 55) ⟨[]⟩ ⟨[.pointer (some ⟨b18, 0, none⟩)]⟩), (9, [], .int .i64 y34.1), (28, [], .bool (!y50.1))] [] H52 (by decide) (by kernel_rfl) trivial fun _ wd53 H54 hb => ?_
  clear H52
  replace hS := hS.below hb
  clear hb
  refine wl_end rfl ?_
  obtain rfl := someE hm
  exact ⟨FrG.keep (ks := [2, 4, 5, 6, 7, 8, 9, 28]) H54 (by kernel_rfl), hS⟩
 ·rintro _ wd160 ⟨H, hS⟩
  refine w_if H rfl (fun hc => ?c159) (fun hc => ?_)
  case c159 =>
   replace hm := bT hc hm
   refine w_seq ?_
   refine wl_start ?_
   refine wl_batch 0 1 [(.agg ⟨[.int .i64 0, .int .i64 0, .slice none 0 0, .slice none 0 0]⟩)] [2, 29] [(2, [], .pointer (some ⟨b1, 0, none⟩)), (29, [], .agg ⟨[.int .i64 0, .int .i64 0, .slice none 0 0, .slice none 0 0]⟩)] [fun wz => V.atN b6 0 [.int .i64 0, .int .i64 0, .slice none 0 0, .slice none 0 0] 0 wz] H (by decide) (by kernel_rfl) ⟨((hS.bk 3 rfl).atD rfl), trivial⟩ fun _ wd55 H56 hb => ?_
   clear H
   replace hS := hS.below hb
   clear hb
   have hd := hS.hand [4] [0, 1, 2, 3, 5, 6] rfl rfl
   refine m_stp0 [2] [(2, [], .pointer (some ⟨b1, 0, none⟩))] H56 rfl rfl rfl (o_store [.int .i64 0, .int .i64 0, .slice none 0 0, .slice none 0 0] H56 hd rfl rfl (by kernel_rfl) rfl rfl rfl) rfl fun _ wd57 H58 hq => ?_
   clear H56 hd
   obtain ⟨_, hq⟩ := hq
   replace hS : SH M X w [Ent.blk b1 [.int .i64 0, .int .i64 0, .slice none 0 0, .slice none 0 0], Ent.blk b11 [.string ⟨⟨z39.2⟩⟩], Ent.blk b25 [.func (.func 52) ⟨[]⟩ ⟨[.pointer (some ⟨b11, 0, none⟩)]⟩], Ent.blk b18 [.func (.func 50) ⟨[]⟩ ⟨[.pointer (some ⟨b11, 0, none⟩)]⟩], Ent.blk b6 [.int .i64 0, .int .i64 0, .slice none 0 0, .slice none 0 0], Ent.gifc 2, Ent.gifc 3] _ := hS.join [4] [0, 1, 2, 3, 5, 6] rfl rfl hq
   clear hq
   refine wl_batch 2 3 [] [2, 3] [(2, [], .pointer (some ⟨b1, 0, none⟩)), (3, [], .bool false)] [] H58 (by decide) (by kernel_rfl) trivial fun _ wd59 H60 hb => ?_
   clear H58
   replace hS := hS.below hb
   clear hb
   refine wl_end rfl ?_
   replace hS : SH M X w [Ent.blk b1 [.int .i64 0, .int .i64 0, .slice none 0 0, .slice none 0 0], Ent.gifc 2, Ent.gifc 3] _ := hS.sel [0, 5, 6] rfl
   refine w_ret ?_
   obtain rfl := someE hm
   replace hS : SH M X w [Ent.own 9 tS ([] : List Str) (.nil), Ent.blk b1 [.int .i64 0, .int .i64 0, .slice none 0 0, .slice none 0 0], Ent.gifc 2, Ent.gifc 3] _ := hS.addNil 9 tS
   replace hS : SH M X w [Ent.im tS ([] : List Str) (.nil), Ent.blk b1 [.int .i64 0, .int .i64 0, .slice none 0 0, .slice none 0 0], Ent.gifc 2, Ent.gifc 3] _ := SH.frz1 (hS.sel [0, 1, 2, 3] rfl)
   replace hS : SH M X w [Ent.own 3 (tI .i64) ([] : List Int) (.nil), Ent.im tS ([] : List Str) (.nil), Ent.blk b1 [.int .i64 0, .int .i64 0, .slice none 0 0, .slice none 0 0], Ent.gifc 2, Ent.gifc 3] _ := hS.addNil 3 (tI .i64)
   exact retR2 H60 rfl (oneRes_agg rfl (hS.bk 2 rfl) Tryd.underlying26 rfl (by kernel_rfl)) rfl ⟨_, rfl, Gh.nil, Gh.nil, rfl, (hS.sel [1, 0] rfl)⟩
  replace hm := bF hc hm
  refine w_skip ?_
  refine w_seq ?_
  refine wl_start ?_
  refine wl_batch 0 2 [] [2, 4, 5, 6, 7, 8, 30, 31] [(2, [], .pointer (some ⟨b1, 0, none⟩)), (4, [], .pointer (some ⟨b6, 0, none⟩)), (5, [], .pointer (some ⟨b11, 0, none⟩)), (6, [], .pointer (some ⟨b18, 0, none⟩)), (7, [], .pointer (some ⟨b25, 0, none⟩)), (8, [], .func (.func 55) ⟨[]⟩ ⟨[.pointer (some ⟨b18, 0, none⟩)]⟩), (30, [], .int .i64 y34.1), (31, [], .pointer (some ⟨b6, 0, none⟩))] [] H (by decide) (by kernel_rfl) trivial fun _ wd63 H64 hb => ?_
  clear H
  replace hS := hS.below hb
  clear hb
  have hd := hS.hand [3] [0, 1, 2, 4, 5, 6] rfl rfl
  refine m_stp0 [2, 4, 5, 6, 7, 8] [(2, [], .pointer (some ⟨b1, 0, none⟩)), (4, [], .pointer (some ⟨b6, 0, none⟩)), (5, [], .pointer (some ⟨b11, 0, none⟩)), (6, [], .pointer (some ⟨b18, 0, none⟩)), (7, [], .pointer (some ⟨b25, 0, none⟩)), (8, [], .func (.func 55) ⟨[]⟩ ⟨[.pointer (some ⟨b18, 0, none⟩)]⟩)] H64 rfl rfl rfl (o_store [.int .i64 y34.1, .int .i64 0, .slice none 0 0, .slice none 0 0] H64 hd rfl rfl (by kernel_rfl) rfl rfl rfl) rfl fun _ wd65 H66 hq => ?_
  clear H64 hd
  obtain ⟨_, hq⟩ := hq
  replace hS : SH M X w [Ent.blk b6 [.int .i64 y34.1, .int .i64 0, .slice none 0 0, .slice none 0 0], Ent.blk b11 [.string ⟨⟨z39.2⟩⟩], Ent.blk b25 [.func (.func 52) ⟨[]⟩ ⟨[.pointer (some ⟨b11, 0, none⟩)]⟩], Ent.blk b18 [.func (.func 50) ⟨[]⟩ ⟨[.pointer (some ⟨b11, 0, none⟩)]⟩], Ent.blk b1 [.int .i64 0, .int .i64 0, .slice none 0 0, .slice none 0 0], Ent.gifc 2, Ent.gifc 3] _ := hS.join [3] [0, 1, 2, 4, 5, 6] rfl rfl hq
  clear hq
  refine wl_end rfl ?_
  refine w_seq ?_
  refine w_seq ?_
  refine wl_start ?_
  refine wl_batch 0 1 [(.func (.func 52) ⟨[]⟩ ⟨[.pointer (some ⟨b11, 0, none⟩)]⟩)] [2, 4, 5, 6, 7, 8, 33] [(2, [], .pointer (some ⟨b1, 0, none⟩)), (4, [], .pointer (some ⟨b6, 0, none⟩)), (5, [], .pointer (some ⟨b11, 0, none⟩)), (6, [], .pointer (some ⟨b18, 0, none⟩)), (7, [], .pointer (some ⟨b25, 0, none⟩)), (8, [], .func (.func 55) ⟨[]⟩ ⟨[.pointer (some ⟨b18, 0, none⟩)]⟩), (33, [], .func (.func 52) ⟨[]⟩ ⟨[.pointer (some ⟨b11, 0, none⟩)]⟩)] [fun wz => V.at1 ⟨b25, 0, none⟩ (.func (.func 52) ⟨[]⟩ ⟨[.pointer (some ⟨b11, 0, none⟩)]⟩) wz] H66 (by decide) (by kernel_rfl) ⟨((hS.bk 2 rfl).at1 rfl), trivial⟩ fun _ wd67 H68 hb => ?_
  clear H66
  replace hS := hS.below hb
  clear hb
  obtain ⟨y69, hy69, hm⟩ := bindE hm
  have hd := hS.hand [1, 5, 6] [0, 2, 3, 4, 5, 6] rfl rfl
  refine m_stp [34, 2, 4, 5, 6, 7, 8] [(2, [], .pointer (some ⟨b1, 0, none⟩)), (4, [], .pointer (some ⟨b6, 0, none⟩)), (5, [], .pointer (some ⟨b11, 0, none⟩)), (6, [], .pointer (some ⟨b18, 0, none⟩)), (7, [], .pointer (some ⟨b25, 0, none⟩)), (8, [], .func (.func 55) ⟨[]⟩ ⟨[.pointer (some ⟨b18, 0, none⟩)]⟩)] H68 rfl rfl rfl rfl (o_callx H68 rfl rfl (answer_read_2_ok (b_u0 := b11) _ _ hy69 _ _ hd)) (fun _ => rfl) fun _ wd70 v H71 hq => ?_
  clear H68 hd
  obtain ⟨rfl, hq⟩ := hq
  replace hS : SH M X w [Ent.blk b11 [.string ⟨⟨y69.2.2⟩⟩], Ent.blk b6 [.int .i64 y34.1, .int .i64 0, .slice none 0 0, .slice none 0 0], Ent.blk b25 [.func (.func 52) ⟨[]⟩ ⟨[.pointer (some ⟨b11, 0, none⟩)]⟩], Ent.blk b18 [.func (.func 50) ⟨[]⟩ ⟨[.pointer (some ⟨b11, 0, none⟩)]⟩], Ent.blk b1 [.int .i64 0, .int .i64 0, .slice none 0 0, .slice none 0 0], Ent.gifc 2, Ent.gifc 3] _ := hS.join [1, 5, 6] [0, 2, 3, 4, 5, 6] rfl rfl hq
  clear hq
  refine wl_batch 2 6 [] [2, 4, 5, 6, 7, 8, 35, 36, 37] [(2, [], .pointer (some ⟨b1, 0, none⟩)), (4, [], .pointer (some ⟨b6, 0, none⟩)), (5, [], .pointer (some ⟨b11, 0, none⟩)), (6, [], .pointer (some ⟨b18, 0, none⟩)), (7, [], .pointer (some ⟨b25, 0, none⟩)), (8, [], .func (.func 55) ⟨[]⟩ ⟨[.pointer (some ⟨b18, 0, none⟩)]⟩), (35, [], .int .i64 y69.1), (36, [], .bool y69.2.1), (37, [], .pointer (some ⟨b6, 1, none⟩))] [] H71 (by decide) (by kernel_rfl) trivial fun _ wd72 H73 hb => ?_
  clear H71
  replace hS := hS.below hb
  clear hb
  have hd := hS.hand [1] [0, 2, 3, 4, 5, 6] rfl rfl
  refine m_stp0 [2, 4, 5, 6, 7, 8, 36] [(2, [], .pointer (some ⟨b1, 0, none⟩)), (4, [], .pointer (some ⟨b6, 0, none⟩)), (5, [], .pointer (some ⟨b11, 0, none⟩)), (6, [], .pointer (some ⟨b18, 0, none⟩)), (7, [], .pointer (some ⟨b25, 0, none⟩)), (8, [], .func (.func 55) ⟨[]⟩ ⟨[.pointer (some ⟨b18, 0, none⟩)]⟩), (36, [], .bool y69.2.1)] H73 rfl rfl rfl (o_store [.int .i64 y34.1, .int .i64 y69.1, .slice none 0 0, .slice none 0 0] H73 hd rfl rfl (by kernel_rfl) rfl rfl rfl) rfl fun _ wd74 H75 hq => ?_
  clear H73 hd
  obtain ⟨_, hq⟩ := hq
  replace hS : SH M X w [Ent.blk b6 [.int .i64 y34.1, .int .i64 y69.1, .slice none 0 0, .slice none 0 0], Ent.blk b11 [.string ⟨⟨y69.2.2⟩⟩], Ent.blk b25 [.func (.func 52) ⟨[]⟩ ⟨[.pointer (some ⟨b11, 0, none⟩)]⟩], Ent.blk b18 [.func (.func 50) ⟨[]⟩ ⟨[.pointer (some ⟨b11, 0, none⟩)]⟩], Ent.blk b1 [.int .i64 0, .int .i64 0, .slice none 0 0, .slice none 0 0], Ent.gifc 2, Ent.gifc 3] _ := hS.join [1] [0, 2, 3, 4, 5, 6] rfl rfl hq
  clear hq
  refine wl_batch 7 8 [] [2, 4, 5, 6, 7, 8, 10] [(2, [], .pointer (some ⟨b1, 0, none⟩)), (4, [], .pointer (some ⟨b6, 0, none⟩)), (5, [], .pointer (some ⟨b11, 0, none⟩)), (6, [], .pointer (some ⟨b18, 0, none⟩)), (7, [], .pointer (some ⟨b25, 0, none⟩)), (8, [], .func (.func 55) ⟨[]⟩ ⟨[.pointer (some ⟨b18, 0, none⟩)]⟩), (10, [], .bool y69.2.1)] [] H75 (by decide) (by kernel_rfl) trivial fun _ wd76 H77 hb => ?_
  clear H75
  replace hS := hS.below hb
  clear hb
  refine wl_end rfl ?_
  obtain ⟨z78, hz, hm⟩ := bindE hm
  refine w_cut (fun a' w' => Fr 66 [(2, [], .pointer (some ⟨b1, 0, none⟩)), (4, [], .pointer (some ⟨b6, 0, none⟩)), (5, [], .pointer (some ⟨b11, 0, none⟩)), (6, [], .pointer (some ⟨b18, 0, none⟩)), (7, [], .pointer (some ⟨b25, 0, none⟩)), (8, [], .func (.func 55) ⟨[]⟩ ⟨[.pointer (some ⟨b18, 0, none⟩)]⟩), (44, [], .bool z78.1)] a' ∧ SH M X w [Ent.blk b6 [.int .i64 y34.1, .int .i64 y69.1, .slice none 0 0, .slice none 0 0], Ent.blk b11 [.string ⟨⟨z78.2⟩⟩], Ent.blk b25 [.func (.func 52) ⟨[]⟩ ⟨[.pointer (some ⟨b11, 0, none⟩)]⟩], Ent.blk b18 [.func (.func 50) ⟨[]⟩ ⟨[.pointer (some ⟨b11, 0, none⟩)]⟩], Ent.blk b1 [.int .i64 0, .int .i64 0, .slice none 0 0, .slice none 0 0], Ent.gifc 2, Ent.gifc 3] w') ?_ ?_
  ·replace hm := hz
   refine wl_start ?_
   obtain ⟨x79, hx79, hm⟩ := letE hm
   refine wl_batch 0 3 [] [2, 4, 5, 6, 7, 8, 40] [(2, [], .pointer (some ⟨b1, 0, none⟩)), (4, [], .pointer (some ⟨b6, 0, none⟩)), (5, [], .pointer (some ⟨b11, 0, none⟩)), (6, [], .pointer (some ⟨b18, 0, none⟩)), (7, [], .pointer (some ⟨b25, 0, none⟩)), (8, [], .func (.func 55) ⟨[]⟩ ⟨[.pointer (some ⟨b18, 0, none⟩)]⟩), (40, [], .bool x79)] [] H77 (by decide) (by subst hx79; kernel_rfl) trivial fun _ wd80 H81 hb => ?_
   clear H77
   replace hS := hS.below hb
   clear hb
   cases x79
   case true =>
    replace hm := bT rfl hm
    refine m_skipG 40 [41, 2, 4, 5, 6, 7, 8, 40] [(41, [], undef), (2, [], .pointer (some ⟨b1, 0, none⟩)), (4, [], .pointer (some ⟨b6, 0, none⟩)), (5, [], .pointer (some ⟨b11, 0, none⟩)), (6, [], .pointer (some ⟨b18, 0, none⟩)), (7, [], .pointer (some ⟨b25, 0, none⟩)), (8, [], .func (.func 55) ⟨[]⟩ ⟨[.pointer (some ⟨b18, 0, none⟩)]⟩), (40, [], .bool true)] H81 rfl rfl rfl rfl rfl rfl fun _ H82 => ?_
    clear H81
    refine m_skipG 40 [42, 2, 4, 5, 6, 7, 8, 40] [(42, [], undef), (2, [], .pointer (some ⟨b1, 0, none⟩)), (4, [], .pointer (some ⟨b6, 0, none⟩)), (5, [], .pointer (some ⟨b11, 0, none⟩)), (6, [], .pointer (some ⟨b18, 0, none⟩)), (7, [], .pointer (some ⟨b25, 0, none⟩)), (8, [], .func (.func 55) ⟨[]⟩ ⟨[.pointer (some ⟨b18, 0, none⟩)]⟩), (40, [], .bool true)] H82 rfl rfl rfl rfl rfl rfl fun _ H83 => ?_
    clear H82
    refine m_skipG 40 [43, 2, 4, 5, 6, 7, 8, 40] [(43, [], undef), (2, [], .pointer (some ⟨b1, 0, none⟩)), (4, [], .pointer (some ⟨b6, 0, none⟩)), (5, [], .pointer (some ⟨b11, 0, none⟩)), (6, [], .pointer (some ⟨b18, 0, none⟩)), (7, [], .pointer (some ⟨b25, 0, none⟩)), (8, [], .func (.func 55) ⟨[]⟩ ⟨[.pointer (some ⟨b18, 0, none⟩)]⟩), (40, [], .bool true)] H83 rfl rfl rfl rfl rfl rfl fun _ H84 => ?_
    clear H83
    refine wl_batch 6 7 [] [2, 4, 5, 6, 7, 8, 44] [(2, [], .pointer (some ⟨b1, 0, none⟩)), (4, [], .pointer (some ⟨b6, 0, none⟩)), (5, [], .pointer (some ⟨b11, 0, none⟩)), (6, [], .pointer (some ⟨b18, 0, none⟩)), (7, [], .pointer (some ⟨b25, 0, none⟩)), (8, [], .func (.func 55) ⟨[]⟩ ⟨[.pointer (some ⟨b18, 0, none⟩)]⟩), (44, [], .bool true)] [] H84 (by decide) (by kernel_rfl) trivial fun _ wd85 H86 hb => ?_
    clear H84
    replace hS := hS.below hb
    clear hb
    refine wl_end rfl ?_
    obtain rfl := someE hm
    exact ⟨FrG.keep (ks := [2, 4, 5, 6, 7, 8, 44]) H86 (by kernel_rfl), hS⟩
   replace hm := bF rfl hm
   refine wl_batchM 3 4 [(.func (.func 50) ⟨[]⟩ ⟨[.pointer (some ⟨b11, 0, none⟩)]⟩)] [(2, 0), (4, 0), (5, 0), (6, 0), (7, 0), (8, 0), (40, 0), (41, 1)] [(2, [], .pointer (some ⟨b1, 0, none⟩)), (4, [], .pointer (some ⟨b6, 0, none⟩)), (5, [], .pointer (some ⟨b11, 0, none⟩)), (6, [], .pointer (some ⟨b18, 0, none⟩)), (7, [], .pointer (some ⟨b25, 0, none⟩)), (8, [], .func (.func 55) ⟨[]⟩ ⟨[.pointer (some ⟨b18, 0, none⟩)]⟩), (40, [], .bool false), (41, [], .func (.func 50) ⟨[]⟩ ⟨[.pointer (some ⟨b11, 0, none⟩)]⟩)] [fun wz => (false = false ∧ True → V.at1 ⟨b18, 0, none⟩ (.func (.func 50) ⟨[]⟩ ⟨[.pointer (some ⟨b11, 0, none⟩)]⟩) wz)] H81 (by decide) (by kernel_rfl) ⟨fun hg => (hS.bk 3 rfl).at1 rfl, trivial⟩ fun _ wd87 H88 hb => ?_
   clear H81
   replace hS := hS.below hb
   clear hb
   obtain ⟨y89, hy89, hm⟩ := bindE hm
   have hd := hS.hand [1] [0, 2, 3, 4, 5, 6] rfl rfl
   refine m_stpG 40 [42, 2, 4, 5, 6, 7, 8, 40] [(2, [], .pointer (some ⟨b1, 0, none⟩)), (4, [], .pointer (some ⟨b6, 0, none⟩)), (5, [], .pointer (some ⟨b11, 0, none⟩)), (6, [], .pointer (some ⟨b18, 0, none⟩)), (7, [], .pointer (some ⟨b25, 0, none⟩)), (8, [], .func (.func 55) ⟨[]⟩ ⟨[.pointer (some ⟨b18, 0, none⟩)]⟩), (40, [], .bool false)] H88 rfl rfl rfl rfl (o_callx H88 rfl rfl (answer_read_1_ok (b_u0 := b11) _ _ _ hy89 _ _ hd)) (fun _ => rfl) fun _ wd90 v H91 hq => ?_
   clear H88 hd
   obtain ⟨rfl, hq⟩ := hq
   replace hS : SH M X w [Ent.blk b11 [.string ⟨⟨y89.2⟩⟩], Ent.blk b6 [.int .i64 y34.1, .int .i64 y69.1, .slice none 0 0, .slice none 0 0], Ent.blk b25 [.func (.func 52) ⟨[]⟩ ⟨[.pointer (some ⟨b11, 0, none⟩)]⟩], Ent.blk b18 [.func (.func 50) ⟨[]⟩ ⟨[.pointer (some ⟨b11, 0, none⟩)]⟩], Ent.blk b1 [.int .i64 0, .int .i64 0, .slice none 0 0, .slice none 0 0], Ent.gifc 2, Ent.gifc 3] _ := hS.join [1] [0, 2, 3, 4, 5, 6] rfl rfl hq
   clear hq
   refine wl_batch 5 7 [] [2, 4, 5, 6, 7, 8, 44] [(2, [], .pointer (some ⟨b1, 0, none⟩)), (4, [], .pointer (some ⟨b6, 0, none⟩)), (5, [], .pointer (some ⟨b11, 0, none⟩)), (6, [], .pointer (some ⟨b18, 0, none⟩)), (7, [], .pointer (some ⟨b25, 0, none⟩)), (8, [], .func (.func 55) ⟨[]⟩ ⟨[.pointer (some ⟨b18, 0, none⟩)]⟩), (44, [], .bool (!y89.1))] [] H91 (by decide) (by kernel_rfl) trivial fun _ wd92 H93 hb => ?_
   clear H91
   replace hS := hS.below hb
   clear hb
   refine wl_end rfl ?_
   obtain rfl := someE hm
   replace hS : SH M X w [Ent.blk b6 [.int .i64 y34.1, .int .i64 y69.1, .slice none 0 0, .slice none 0 0], Ent.blk b11 [.string ⟨⟨y89.2⟩⟩], Ent.blk b25 [.func (.func 52) ⟨[]⟩ ⟨[.pointer (some ⟨b11, 0, none⟩)]⟩], Ent.blk b18 [.func (.func 50) ⟨[]⟩ ⟨[.pointer (some ⟨b11, 0, none⟩)]⟩], Ent.blk b1 [.int .i64 0, .int .i64 0, .slice none 0 0, .slice none 0 0], Ent.gifc 2, Ent.gifc 3] _ := hS.sel [1, 0, 2, 3, 4, 5, 6] rfl
   exact ⟨FrG.keep (ks := [2, 4, 5, 6, 7, 8, 44]) H93 (by kernel_rfl), hS⟩
  ·rintro _ wd158 ⟨H, hS⟩
   refine w_if H rfl (fun hc => ?c157) (fun hc => ?_)
   case c157 =>
    replace hm := bT hc hm
    refine w_seq ?_
    refine wl_start ?_
    refine wl_batch 0 1 [(.agg ⟨[.int .i64 y34.1, .int .i64 y69.1, .slice none 0 0, .slice none 0 0]⟩)] [2, 45] [(2, [], .pointer (some ⟨b1, 0, none⟩)), (45, [], .agg ⟨[.int .i64 y34.1, .int .i64 y69.1, .slice none 0 0, .slice none 0 0]⟩)] [fun wz => V.atN b6 0 [.int .i64 y34.1, .int .i64 y69.1, .slice none 0 0, .slice none 0 0] 0 wz] H (by decide) (by kernel_rfl) ⟨((hS.bk 0 rfl).atD rfl), trivial⟩ fun _ wd94 H95 hb => ?_
    clear H
    replace hS := hS.below hb
    clear hb
    have hd := hS.hand [4] [0, 1, 2, 3, 5, 6] rfl rfl
    refine m_stp0 [2] [(2, [], .pointer (some ⟨b1, 0, none⟩))] H95 rfl rfl rfl (o_store [.int .i64 y34.1, .int .i64 y69.1, .slice none 0 0, .slice none 0 0] H95 hd rfl rfl (by kernel_rfl) rfl rfl rfl) rfl fun _ wd96 H97 hq => ?_
    clear H95 hd
    obtain ⟨_, hq⟩ := hq
    replace hS : SH M X w [Ent.blk b1 [.int .i64 y34.1, .int .i64 y69.1, .slice none 0 0, .slice none 0 0], Ent.blk b6 [.int .i64 y34.1, .int .i64 y69.1, .slice none 0 0, .slice none 0 0], Ent.blk b11 [.string ⟨⟨z78.2⟩⟩], Ent.blk b25 [.func (.func 52) ⟨[]⟩ ⟨[.pointer (some ⟨b11, 0, none⟩)]⟩], Ent.blk b18 [.func (.func 50) ⟨[]⟩ ⟨[.pointer (some ⟨b11, 0, none⟩)]⟩], Ent.gifc 2, Ent.gifc 3] _ := hS.join [4] [0, 1, 2, 3, 5, 6] rfl rfl hq
    clear hq
    refine wl_batch 2 3 [] [2, 3] [(2, [], .pointer (some ⟨b1, 0, none⟩)), (3, [], .bool false)] [] H97 (by decide) (by kernel_rfl) trivial fun _ wd98 H99 hb => ?_
    clear H97
    replace hS := hS.below hb
    clear hb
    refine wl_end rfl ?_
    replace hS : SH M X w [Ent.blk b1 [.int .i64 y34.1, .int .i64 y69.1, .slice none 0 0, .slice none 0 0], Ent.gifc 2, Ent.gifc 3] _ := hS.sel [0, 5, 6] rfl
    refine w_ret ?_
    obtain rfl := someE hm
    replace hS : SH M X w [Ent.own 9 tS ([] : List Str) (.nil), Ent.blk b1 [.int .i64 y34.1, .int .i64 y69.1, .slice none 0 0, .slice none 0 0], Ent.gifc 2, Ent.gifc 3] _ := hS.addNil 9 tS
    replace hS : SH M X w [Ent.im tS ([] : List Str) (.nil), Ent.blk b1 [.int .i64 y34.1, .int .i64 y69.1, .slice none 0 0, .slice none 0 0], Ent.gifc 2, Ent.gifc 3] _ := SH.frz1 (hS.sel [0, 1, 2, 3] rfl)
    replace hS : SH M X w [Ent.own 3 (tI .i64) ([] : List Int) (.nil), Ent.im tS ([] : List Str) (.nil), Ent.blk b1 [.int .i64 y34.1, .int .i64 y69.1, .slice none 0 0, .slice none 0 0], Ent.gifc 2, Ent.gifc 3] _ := hS.addNil 3 (tI .i64)
    exact retR2 H99 rfl (oneRes_agg rfl (hS.bk 2 rfl) Tryd.underlying26 rfl (by kernel_rfl)) rfl ⟨_, rfl, Gh.nil, Gh.nil, rfl, (hS.sel [1, 0] rfl)⟩
   replace hm := bF hc hm
   refine w_skip ?_
   refine w_seq ?_
   refine wl_start ?_
   refine wl_batch 0 2 [] [2, 4, 5, 6, 7, 8, 46, 47] [(2, [], .pointer (some ⟨b1, 0, none⟩)), (4, [], .pointer (some ⟨b6, 0, none⟩)), (5, [], .pointer (some ⟨b11, 0, none⟩)), (6, [], .pointer (some ⟨b18, 0, none⟩)), (7, [], .pointer (some ⟨b25, 0, none⟩)), (8, [], .func (.func 55) ⟨[]⟩ ⟨[.pointer (some ⟨b18, 0, none⟩)]⟩), (46, [], .func (.func 55) ⟨[]⟩ ⟨[.pointer (some ⟨b18, 0, none⟩)]⟩), (47, [], .func (.func 56) ⟨[]⟩ ⟨[.pointer (some ⟨b18, 0, none⟩), .pointer (some ⟨b11, 0, none⟩), .pointer (some ⟨b6, 0, none⟩)]⟩)] [] H (by decide) (by kernel_rfl) trivial fun _ wd102 H103 hb => ?_
   clear H
   replace hS := hS.below hb
   clear hb
   replace hS : SH M X w [Ent.own 9 tS ([] : List Str) (.nil), Ent.blk b6 [.int .i64 y34.1, .int .i64 y69.1, .slice none 0 0, .slice none 0 0], Ent.blk b11 [.string ⟨⟨z78.2⟩⟩], Ent.blk b25 [.func (.func 52) ⟨[]⟩ ⟨[.pointer (some ⟨b11, 0, none⟩)]⟩], Ent.blk b18 [.func (.func 50) ⟨[]⟩ ⟨[.pointer (some ⟨b11, 0, none⟩)]⟩], Ent.blk b1 [.int .i64 0, .int .i64 0, .slice none 0 0, .slice none 0 0], Ent.gifc 2, Ent.gifc 3] _ := hS.addNil 9 tS
   replace hS : SH M X w [Ent.own 3 (tI .i64) ([] : List Int) (.nil), Ent.own 9 tS ([] : List Str) (.nil), Ent.blk b6 [.int .i64 y34.1, .int .i64 y69.1, .slice Gh.nil.a (([] : List Str).length) Gh.nil.c, .slice none 0 0], Ent.blk b11 [.string ⟨⟨z78.2⟩⟩], Ent.blk b25 [.func (.func 52) ⟨[]⟩ ⟨[.pointer (some ⟨b11, 0, none⟩)]⟩], Ent.blk b18 [.func (.func 50) ⟨[]⟩ ⟨[.pointer (some ⟨b11, 0, none⟩)]⟩], Ent.blk b1 [.int .i64 0, .int .i64 0, .slice none 0 0, .slice none 0 0], Ent.gifc 2, Ent.gifc 3] _ := hS.addNil 3 (tI .i64)
   replace hS : SH M X w [Ent.im (tI .i64) ([] : List Int) (.nil), Ent.own 9 tS ([] : List Str) (.nil), Ent.blk b6 [.int .i64 y34.1, .int .i64 y69.1, .slice Gh.nil.a (([] : List Str).length) Gh.nil.c, .slice none 0 0], Ent.blk b11 [.string ⟨⟨z78.2⟩⟩], Ent.blk b25 [.func (.func 52) ⟨[]⟩ ⟨[.pointer (some ⟨b11, 0, none⟩)]⟩], Ent.blk b18 [.func (.func 50) ⟨[]⟩ ⟨[.pointer (some ⟨b11, 0, none⟩)]⟩], Ent.blk b1 [.int .i64 0, .int .i64 0, .slice none 0 0, .slice none 0 0], Ent.gifc 2, Ent.gifc 3] _ := SH.frz1 (hS.sel [0, 1, 2, 3, 4, 5, 6, 7, 8] rfl)
   obtain ⟨y106, hy106, hm⟩ := bindE hm
   have hd := hS.hand [5, 3, 2, 1, 0] [0, 4, 6, 7, 8] rfl rfl
   refine m_stp [48, 2, 4, 5, 6, 7, 8] [(2, [], .pointer (some ⟨b1, 0, none⟩)), (4, [], .pointer (some ⟨b6, 0, none⟩)), (5, [], .pointer (some ⟨b11, 0, none⟩)), (6, [], .pointer (some ⟨b18, 0, none⟩)), (7, [], .pointer (some ⟨b25, 0, none⟩)), (8, [], .func (.func 55) ⟨[]⟩ ⟨[.pointer (some ⟨b18, 0, none⟩)]⟩)] H103 rfl rfl rfl rfl (o_callx H103 rfl rfl (answer_read_3_ok (b_one_c0 := b18) (b_one_c0_c0 := b11) (b_one_c2 := b6) (g_one_c2_Texts := Gh.nil) (g_one_c2_Numbers := Gh.nil) m _ _ _ _ _ _ hy106 _ _ hd)) (fun _ => rfl) fun _ wd109 v H110 hq => ?_
   clear H103 hd
   obtain ⟨g107, rfl, hq⟩ := hq
   replace hS : SH M X w [Ent.blk b18 [.func (.func 50) ⟨[]⟩ ⟨[.pointer (some ⟨b11, 0, none⟩)]⟩], Ent.blk b11 [.string ⟨⟨y106.2.1⟩⟩], Ent.blk b6 [.int .i64 y34.1, .int .i64 y69.1, .slice g107.a y106.2.2.length g107.c, .slice none 0 0], Ent.own 9 tS y106.2.2 g107, Ent.im (tI .i64) ([] : List Int) (.nil), Ent.blk b25 [.func (.func 52) ⟨[]⟩ ⟨[.pointer (some ⟨b11, 0, none⟩)]⟩], Ent.blk b1 [.int .i64 0, .int .i64 0, .slice none 0 0, .slice none 0 0], Ent.gifc 2, Ent.gifc 3] _ := hS.join [5, 3, 2, 1, 0] [0, 4, 6, 7, 8] rfl rfl hq
   clear hq
   refine wl_batch 3 4 [] [2, 4, 5, 6, 7, 8, 11] [(2, [], .pointer (some ⟨b1, 0, none⟩)), (4, [], .pointer (some ⟨b6, 0, none⟩)), (5, [], .pointer (some ⟨b11, 0, none⟩)), (6, [], .pointer (some ⟨b18, 0, none⟩)), (7, [], .pointer (some ⟨b25, 0, none⟩)), (8, [], .func (.func 55) ⟨[]⟩ ⟨[.pointer (some ⟨b18, 0, none⟩)]⟩), (11, [], .bool y106.1)] [] H110 (by decide) (by kernel_rfl) trivial fun _ wd111 H112 hb => ?_
   clear H110
   replace hS := hS.below hb
   clear hb
   refine wl_end rfl ?_
   replace hS : SH M X w [Ent.blk b18 [.func (.func 50) ⟨[]⟩ ⟨[.pointer (some ⟨b11, 0, none⟩)]⟩], Ent.blk b11 [.string ⟨⟨y106.2.1⟩⟩], Ent.blk b6 [.int .i64 y34.1, .int .i64 y69.1, .slice g107.a y106.2.2.length g107.c, .slice none 0 0], Ent.own 9 tS y106.2.2 g107, Ent.blk b25 [.func (.func 52) ⟨[]⟩ ⟨[.pointer (some ⟨b11, 0, none⟩)]⟩], Ent.blk b1 [.int .i64 0, .int .i64 0, .slice none 0 0, .slice none 0 0], Ent.gifc 2, Ent.gifc 3] _ := hS.sel [0, 1, 2, 3, 5, 6, 7, 8] rfl
   refine w_seq ?_
   obtain ⟨z113, hz, hm⟩ := bindE hm
   refine w_cut (fun a' w' => Fr 66 [(2, [], .pointer (some ⟨b1, 0, none⟩)), (4, [], .pointer (some ⟨b6, 0, none⟩)), (5, [], .pointer (some ⟨b11, 0, none⟩)), (7, [], .pointer (some ⟨b25, 0, none⟩)), (8, [], .func (.func 55) ⟨[]⟩ ⟨[.pointer (some ⟨b18, 0, none⟩)]⟩), (55, [], .bool z113.1)] a' ∧ SH M X w [Ent.blk b18 [.func (.func 50) ⟨[]⟩ ⟨[.pointer (some ⟨b11, 0, none⟩)]⟩], Ent.blk b11 [.string ⟨⟨z113.2⟩⟩], Ent.blk b6 [.int .i64 y34.1, .int .i64 y69.1, .slice g107.a y106.2.2.length g107.c, .slice none 0 0], Ent.own 9 tS y106.2.2 g107, Ent.blk b25 [.func (.func 52) ⟨[]⟩ ⟨[.pointer (some ⟨b11, 0, none⟩)]⟩], Ent.blk b1 [.int .i64 0, .int .i64 0, .slice none 0 0, .slice none 0 0], Ent.gifc 2, Ent.gifc 3] w') ?_ ?_
   ·replace hm := hz
    refine wl_start ?_
    obtain ⟨x114, hx114, hm⟩ := letE hm
    refine wl_batch 0 3 [] [2, 4, 5, 6, 7, 8, 51] [(2, [], .pointer (some ⟨b1, 0, none⟩)), (4, [], .pointer (some ⟨b6, 0, none⟩)), (5, [], .pointer (some ⟨b11, 0, none⟩)), (6, [], .pointer (some ⟨b18, 0, none⟩)), (7, [], .pointer (some ⟨b25, 0, none⟩)), (8, [], .func (.func 55) ⟨[]⟩ ⟨[.pointer (some ⟨b18, 0, none⟩)]⟩), (51, [], .bool x114)] [] H112 (by decide) (by subst hx114; kernel_rfl) trivial fun _ wd115 H116 hb => ?_
    clear H112
    replace hS := hS.below hb
    clear hb
    cases x114
    case true =>
     replace hm := bT rfl hm
     refine m_skipG 51 [52, 2, 4, 5, 7, 8, 51] [(52, [], undef), (2, [], .pointer (some ⟨b1, 0, none⟩)), (4, [], .pointer (some ⟨b6, 0, none⟩)), (5, [], .pointer (some ⟨b11, 0, none⟩)), (7, [], .pointer (some ⟨b25, 0, none⟩)), (8, [], .func (.func 55) ⟨[]⟩ ⟨[.pointer (some ⟨b18, 0, none⟩)]⟩), (51, [], .bool true)] H116 rfl rfl rfl rfl rfl rfl fun _ H117 => ?_
     clear H116
     refine m_skipG 51 [53, 2, 4, 5, 7, 8, 51] [(53, [], undef), (2, [], .pointer (some ⟨b1, 0, none⟩)), (4, [], .pointer (some ⟨b6, 0, none⟩)), (5, [], .pointer (some ⟨b11, 0, none⟩)), (7, [], .pointer (some ⟨b25, 0, none⟩)), (8, [], .func (.func 55) ⟨[]⟩ ⟨[.pointer (some ⟨b18, 0, none⟩)]⟩), (51, [], .bool true)] H117 rfl rfl rfl rfl rfl rfl fun _ H118 => ?_
     clear H117
     refine m_skipG 51 [54, 2, 4, 5, 7, 8, 51] [(54, [], undef), (2, [], .pointer (some ⟨b1, 0, none⟩)), (4, [], .pointer (some ⟨b6, 0, none⟩)), (5, [], .pointer (some ⟨b11, 0, none⟩)), (7, [], .pointer (some ⟨b25, 0, none⟩)), (8, [], .func (.func 55) ⟨[]⟩ ⟨[.pointer (some ⟨b18, 0, none⟩)]⟩), (51, [], .bool true)] H118 rfl rfl rfl rfl rfl rfl fun _ H119 => ?_
     clear H118
     refine wl_batch 6 7 [] [2, 4, 5, 7, 8, 55] [(2, [], .pointer (some ⟨b1, 0, none⟩)), (4, [], .pointer (some ⟨b6, 0, none⟩)), (5, [], .pointer (some ⟨b11, 0, none⟩)), (7, [], .pointer (some ⟨b25, 0, none⟩)), (8, [], .func (.func 55) ⟨[]⟩ ⟨[.pointer (some ⟨b18, 0, none⟩)]⟩), (55, [], .bool true)] [] H119 (by decide) (by kernel_rfl) trivial fun _ wd120 H121 hb => ?_
     clear H119
     replace hS := hS.below hb
     clear hb
     refine wl_end rfl ?_
     obtain rfl := someE hm
     exact ⟨FrG.keep (ks := [2, 4, 5, 7, 8, 55]) H121 (by kernel_rfl), hS⟩
    replace hm := bF rfl hm
    refine wl_batchM 3 4 [(.func (.func 50) ⟨[]⟩ ⟨[.pointer (some ⟨b11, 0, none⟩)]⟩)] [(2, 0), (4, 0), (5, 0), (7, 0), (8, 0), (51, 0), (52, 1)] [(2, [], .pointer (some ⟨b1, 0, none⟩)), (4, [], .pointer (some ⟨b6, 0, none⟩)), (5, [], .pointer (some ⟨b11, 0, none⟩)), (7, [], .pointer (some ⟨b25, 0, none⟩)), (8, [], .func (.func 55) ⟨[]⟩ ⟨[.pointer (some ⟨b18, 0, none⟩)]⟩), (51, [], .bool false), (52, [], .func (.func 50) ⟨[]⟩ ⟨[.pointer (some ⟨b11, 0, none⟩)]⟩)] [fun wz => (false = false ∧ True → V.at1 ⟨b18, 0, none⟩ (.func (.func 50) ⟨[]⟩ ⟨[.pointer (some ⟨b11, 0, none⟩)]⟩) wz)] H116 (by decide) (by kernel_rfl) ⟨fun hg => (hS.bk 0 rfl).at1 rfl, trivial⟩ fun _ wd122 H123 hb => ?_
    clear H116
    replace hS := hS.below hb
    clear hb
    obtain ⟨y124, hy124, hm⟩ := bindE hm
    have hd := hS.hand [1] [0, 2, 3, 4, 5, 6, 7] rfl rfl
    refine m_stpG 51 [53, 2, 4, 5, 7, 8, 51] [(2, [], .pointer (some ⟨b1, 0, none⟩)), (4, [], .pointer (some ⟨b6, 0, none⟩)), (5, [], .pointer (some ⟨b11, 0, none⟩)), (7, [], .pointer (some ⟨b25, 0, none⟩)), (8, [], .func (.func 55) ⟨[]⟩ ⟨[.pointer (some ⟨b18, 0, none⟩)]⟩), (51, [], .bool false)] H123 rfl rfl rfl rfl (o_callx H123 rfl rfl (answer_read_1_ok (b_u0 := b11) _ _ _ hy124 _ _ hd)) (fun _ => rfl) fun _ wd125 v H126 hq => ?_
    clear H123 hd
    obtain ⟨rfl, hq⟩ := hq
    replace hS : SH M X w [Ent.blk b11 [.string ⟨⟨y124.2⟩⟩], Ent.blk b18 [.func (.func 50) ⟨[]⟩ ⟨[.pointer (some ⟨b11, 0, none⟩)]⟩], Ent.blk b6 [.int .i64 y34.1, .int .i64 y69.1, .slice g107.a y106.2.2.length g107.c, .slice none 0 0], Ent.own 9 tS y106.2.2 g107, Ent.blk b25 [.func (.func 52) ⟨[]⟩ ⟨[.pointer (some ⟨b11, 0, none⟩)]⟩], Ent.blk b1 [.int .i64 0, .int .i64 0, .slice none 0 0, .slice none 0 0], Ent.gifc 2, Ent.gifc 3] _ := hS.join [1] [0, 2, 3, 4, 5, 6, 7] rfl rfl hq
    clear hq
    refine wl_batch 5 7 [] [2, 4, 5, 7, 8, 55] [(2, [], .pointer (some ⟨b1, 0, none⟩)), (4, [], .pointer (some ⟨b6, 0, none⟩)), (5, [], .pointer (some ⟨b11, 0, none⟩)), (7, [], .pointer (some ⟨b25, 0, none⟩)), (8, [], .func (.func 55) ⟨[]⟩ ⟨[.pointer (some ⟨b18, 0, none⟩)]⟩), (55, [], .bool (!y124.1))] [] H126 (by decide) (by kernel_rfl) trivial fun _ wd127 H128 hb => ?_
    clear H126
    replace hS := hS.below hb
    clear hb
    refine wl_end rfl ?_
    obtain rfl := someE hm
    replace hS : SH M X w [Ent.blk b18 [.func (.func 50) ⟨[]⟩ ⟨[.pointer (some ⟨b11, 0, none⟩)]⟩], Ent.blk b11 [.string ⟨⟨y124.2⟩⟩], Ent.blk b6 [.int .i64 y34.1, .int .i64 y69.1, .slice g107.a y106.2.2.length g107.c, .slice none 0 0], Ent.own 9 tS y106.2.2 g107, Ent.blk b25 [.func (.func 52) ⟨[]⟩ ⟨[.pointer (some ⟨b11, 0, none⟩)]⟩], Ent.blk b1 [.int .i64 0, .int .i64 0, .slice none 0 0, .slice none 0 0], Ent.gifc 2, Ent.gifc 3] _ := hS.sel [1, 0, 2, 3, 4, 5, 6, 7] rfl
    exact ⟨FrG.keep (ks := [2, 4, 5, 7, 8, 55]) H128 (by kernel_rfl), hS⟩
   ·rintro _ wd156 ⟨H, hS⟩
    refine w_if H rfl (fun hc => ?c155) (fun hc => ?_)
    case c155 =>
     replace hm := bT hc hm
     refine w_seq ?_
     refine wl_start ?_
     refine wl_batch 0 1 [(.agg ⟨[.int .i64 y34.1, .int .i64 y69.1, .slice g107.a y106.2.2.length g107.c, .slice none 0 0]⟩)] [2, 56] [(2, [], .pointer (some ⟨b1, 0, none⟩)), (56, [], .agg ⟨[.int .i64 y34.1, .int .i64 y69.1, .slice g107.a y106.2.2.length g107.c, .slice none 0 0]⟩)] [fun wz => V.atN b6 0 [.int .i64 y34.1, .int .i64 y69.1, .slice g107.a y106.2.2.length g107.c, .slice none 0 0] 0 wz] H (by decide) (by kernel_rfl) ⟨((hS.bk 2 rfl).atD rfl), trivial⟩ fun _ wd129 H130 hb => ?_
     clear H
     replace hS := hS.below hb
     clear hb
     have hd := hS.hand [5] [0, 1, 2, 3, 4, 6, 7] rfl rfl
     refine m_stp0 [2] [(2, [], .pointer (some ⟨b1, 0, none⟩))] H130 rfl rfl rfl (o_store [.int .i64 y34.1, .int .i64 y69.1, .slice g107.a y106.2.2.length g107.c, .slice none 0 0] H130 hd rfl rfl (by kernel_rfl) rfl rfl rfl) rfl fun _ wd131 H132 hq => ?_
     clear H130 hd
     obtain ⟨_, hq⟩ := hq
     replace hS : SH M X w [Ent.blk b1 [.int .i64 y34.1, .int .i64 y69.1, .slice g107.a y106.2.2.length g107.c, .slice none 0 0], Ent.blk b18 [.func (.func 50) ⟨[]⟩ ⟨[.pointer (some ⟨b11, 0, none⟩)]⟩], Ent.blk b11 [.string ⟨⟨z113.2⟩⟩], Ent.blk b6 [.int .i64 y34.1, .int .i64 y69.1, .slice g107.a y106.2.2.length g107.c, .slice none 0 0], Ent.own 9 tS y106.2.2 g107, Ent.blk b25 [.func (.func 52) ⟨[]⟩ ⟨[.pointer (some ⟨b11, 0, none⟩)]⟩], Ent.gifc 2, Ent.gifc 3] _ := hS.join [5] [0, 1, 2, 3, 4, 6, 7] rfl rfl hq
     clear hq
     refine wl_batch 2 3 [] [2, 3] [(2, [], .pointer (some ⟨b1, 0, none⟩)), (3, [], .bool false)] [] H132 (by decide) (by kernel_rfl) trivial fun _ wd133 H134 hb => ?_
     clear H132
     replace hS := hS.below hb
     clear hb
     refine wl_end rfl ?_
     replace hS : SH M X w [Ent.blk b1 [.int .i64 y34.1, .int .i64 y69.1, .slice g107.a y106.2.2.length g107.c, .slice none 0 0], Ent.own 9 tS y106.2.2 g107, Ent.gifc 2, Ent.gifc 3] _ := hS.sel [0, 4, 6, 7] rfl
     refine w_ret ?_
     obtain rfl := someE hm
     replace hS : SH M X w [Ent.im tS y106.2.2 g107, Ent.blk b1 [.int .i64 y34.1, .int .i64 y69.1, .slice g107.a y106.2.2.length g107.c, .slice none 0 0], Ent.gifc 2, Ent.gifc 3] _ := SH.frz1 (hS.sel [1, 0, 2, 3] rfl)
     replace hS : SH M X w [Ent.own 3 (tI .i64) ([] : List Int) (.nil), Ent.im tS y106.2.2 g107, Ent.blk b1 [.int .i64 y34.1, .int .i64 y69.1, .slice g107.a y106.2.2.length g107.c, .slice none 0 0], Ent.gifc 2, Ent.gifc 3] _ := hS.addNil 3 (tI .i64)
     exact retR2 H134 rfl (oneRes_agg rfl (hS.bk 2 rfl) Tryd.underlying26 rfl (by kernel_rfl)) rfl ⟨_, rfl, g107, Gh.nil, rfl, (hS.sel [1, 0] rfl)⟩
    replace hm := bF hc hm
    refine w_skip ?_
    refine w_seq ?_
    refine wl_start ?_
    refine wl_batch 0 2 [] [2, 4, 5, 57, 58] [(2, [], .pointer (some ⟨b1, 0, none⟩)), (4, [], .pointer (some ⟨b6, 0, none⟩)), (5, [], .pointer (some ⟨b11, 0, none⟩)), (57, [], .func (.func 55) ⟨[]⟩ ⟨[.pointer (some ⟨b18, 0, none⟩)]⟩), (58, [], .func (.func 58) ⟨[]⟩ ⟨[.pointer (some ⟨b25, 0, none⟩), .pointer (some ⟨b6, 0, none⟩)]⟩)] [] H (by decide) (by kernel_rfl) trivial fun _ wd136 H137 hb => ?_
    clear H
    replace hS := hS.below hb
    clear hb
    replace hS : SH M X w [Ent.im tS y106.2.2 g107, Ent.blk b18 [.func (.func 50) ⟨[]⟩ ⟨[.pointer (some ⟨b11, 0, none⟩)]⟩], Ent.blk b11 [.string ⟨⟨z113.2⟩⟩], Ent.blk b6 [.int .i64 y34.1, .int .i64 y69.1, .slice g107.a y106.2.2.length g107.c, .slice none 0 0], Ent.blk b25 [.func (.func 52) ⟨[]⟩ ⟨[.pointer (some ⟨b11, 0, none⟩)]⟩], Ent.blk b1 [.int .i64 0, .int .i64 0, .slice none 0 0, .slice none 0 0], Ent.gifc 2, Ent.gifc 3] _ := SH.frz1 (hS.sel [3, 0, 1, 2, 4, 5, 6, 7] rfl)
    replace hS : SH M X w [Ent.own 3 (tI .i64) ([] : List Int) (.nil), Ent.im tS y106.2.2 g107, Ent.blk b18 [.func (.func 50) ⟨[]⟩ ⟨[.pointer (some ⟨b11, 0, none⟩)]⟩], Ent.blk b11 [.string ⟨⟨z113.2⟩⟩], Ent.blk b6 [.int .i64 y34.1, .int .i64 y69.1, .slice g107.a y106.2.2.length g107.c, .slice none 0 0], Ent.blk b25 [.func (.func 52) ⟨[]⟩ ⟨[.pointer (some ⟨b11, 0, none⟩)]⟩], Ent.blk b1 [.int .i64 0, .int .i64 0, .slice none 0 0, .slice none 0 0], Ent.gifc 2, Ent.gifc 3] _ := hS.addNil 3 (tI .i64)
    obtain ⟨y139, hy139, hm⟩ := bindE hm
    have hd := hS.hand [5, 3, 4, 1, 0, 2, 7, 8] [1, 6, 7, 8] rfl rfl
    refine m_stp [59, 2, 4, 5] [(2, [], .pointer (some ⟨b1, 0, none⟩)), (4, [], .pointer (some ⟨b6, 0, none⟩)), (5, [], .pointer (some ⟨b11, 0, none⟩))] H137 rfl rfl rfl rfl (o_callx H137 rfl rfl (answer_read_3_2_ok (b_one_c0 := b25) (b_one_c0_c0 := b11) (b_one_c1 := b6) (g_one_c1_Texts := g107) (g_one_c1_Numbers := Gh.nil) (b_u0 := b18) m _ _ _ _ _ _ hy139 _ _ hd)) (fun _ => rfl) fun _ wd142 v H143 hq => ?_
    clear H137 hd
    obtain ⟨g140, rfl, hq⟩ := hq
    replace hS : SH M X w [Ent.blk b25 [.func (.func 52) ⟨[]⟩ ⟨[.pointer (some ⟨b11, 0, none⟩)]⟩], Ent.blk b11 [.string ⟨⟨y139.2.1⟩⟩], Ent.blk b6 [.int .i64 y34.1, .int .i64 y69.1, .slice g107.a y106.2.2.length g107.c, .slice g140.a y139.2.2.length g140.c], Ent.own 3 (tI .i64) y139.2.2 g140, Ent.blk b18 [.func (.func 50) ⟨[]⟩ ⟨[.pointer (some ⟨b11, 0, none⟩)]⟩], Ent.im tS y106.2.2 g107, Ent.blk b1 [.int .i64 0, .int .i64 0, .slice none 0 0, .slice none 0 0], Ent.gifc 2, Ent.gifc 3] _ := hS.join [5, 3, 4, 1, 0, 2, 7, 8] [1, 6, 7, 8] rfl rfl hq
    clear hq
    refine wl_batch 3 4 [] [2, 4, 5, 12] [(2, [], .pointer (some ⟨b1, 0, none⟩)), (4, [], .pointer (some ⟨b6, 0, none⟩)), (5, [], .pointer (some ⟨b11, 0, none⟩)), (12, [], .bool y139.1)] [] H143 (by decide) (by kernel_rfl) trivial fun _ wd144 H145 hb => ?_
    clear H143
    replace hS := hS.below hb
    clear hb
    refine wl_end rfl ?_
    replace hS : SH M X w [Ent.blk b11 [.string ⟨⟨y139.2.1⟩⟩], Ent.blk b6 [.int .i64 y34.1, .int .i64 y69.1, .slice g107.a y106.2.2.length g107.c, .slice g140.a y139.2.2.length g140.c], Ent.own 3 (tI .i64) y139.2.2 g140, Ent.im tS y106.2.2 g107, Ent.blk b1 [.int .i64 0, .int .i64 0, .slice none 0 0, .slice none 0 0], Ent.gifc 2, Ent.gifc 3] _ := hS.sel [1, 2, 3, 5, 6, 7, 8] rfl
    generalize hz_z146 : y139.1 = z146 at H145 hm
    cases z146
    case false =>
     replace hm := bF rfl hm
     refine s_drawG (base := [(2, [], .pointer (some ⟨b1, 0, none⟩)), (4, [], .pointer (some ⟨b6, 0, none⟩)), (5, [], .pointer (some ⟨b11, 0, none⟩)), (12, [], .bool false)]) (L := [Ent.blk b11 [.string ⟨⟨y139.2.1⟩⟩], Ent.blk b6 [.int .i64 y34.1, .int .i64 y69.1, .slice g107.a y106.2.2.length g107.c, .slice g140.a y139.2.2.length g140.c], Ent.own 3 (tI .i64) y139.2.2 g140, Ent.im tS y106.2.2 g107, Ent.blk b1 [.int .i64 0, .int .i64 0, .slice none 0 0, .slice none 0 0], Ent.gifc 2, Ent.gifc 3]) 8 7 (fun yg151 => [.agg ⟨[.int .i64 y34.1, .int .i64 y69.1, .slice g107.a y106.2.2.length g107.c, .slice g140.a y139.2.2.length g140.c]⟩, .bool false, .bool false, undef, undef, .bool false, undef, .bool false]) (fun yg151 => [[], [], [], [], [], [], [Ent.blk b1 [.int .i64 y34.1, .int .i64 y69.1, .slice g107.a y106.2.2.length g107.c, .slice g140.a y139.2.2.length g140.c]], []]) [[9, 10, 11], [], [], [], [], [], [10, 11, 12], []] [[], [], [], [], [], [], [12], []] [[0], [1], [1, 2], [1, 2, 3], [1, 2, 4], [1, 2, 4, 5], [0, 6], [1, 2, 4, 5, 7]] [] (FrG.keep (ks := [2, 4, 5, 12]) H145 (by kernel_rfl)) (fun _ _ h => by cases h) (by kernel_rfl) hS (by kernel_rfl) rfl rfl (by kernel_rfl) (by kernel_rfl) (by kernel_rfl) ?hloc_yg151 ?hstep_yg151 fun _ wd152 yg151 H153 hv hS => ?hK_yg151
     case hloc_yg151 => exact ⟨(fun _ _ _ _ => ⟨rfl, rfl⟩), (fun _ _ _ _ => ⟨rfl, rfl⟩), (fun _ _ _ _ => ⟨rfl, rfl⟩), (fun _ _ _ _ => ⟨rfl, rfl⟩), (fun _ _ _ _ => ⟨rfl, rfl⟩), (fun _ _ _ _ => ⟨rfl, rfl⟩), (fun _ _ _ _ => ⟨rfl, rfl⟩), (fun _ _ _ _ => ⟨rfl, rfl⟩), trivial⟩
     case hstep_yg151 =>
      refine ⟨Or.inr ⟨trivial, ?_⟩, Or.inr ⟨trivial, ?_⟩, Or.inr ⟨trivial, ?_⟩, Or.inl ⟨by kernel_rfl, Or.inl fun _ => rfl, fun _ => ⟨rfl, rfl⟩, rfl⟩, Or.inl ⟨by kernel_rfl, Or.inl fun _ => rfl, fun _ => ⟨rfl, rfl⟩, rfl⟩, Or.inr ⟨trivial, ?_⟩, Or.inr ⟨trivial, ?_⟩, Or.inr ⟨trivial, ?_⟩, trivial⟩
      ·intro o ho a w yg151 M Hb hv hO hS
       obtain rfl := Option.some.inj ho
       exact Stp.mono (o_evs [(.agg ⟨[.int .i64 y34.1, .int .i64 y69.1, .slice g107.a y106.2.2.length g107.c, .slice g140.a y139.2.2.length g140.c]⟩)] (.agg ⟨[.int .i64 y34.1, .int .i64 y69.1, .slice g107.a y106.2.2.length g107.c, .slice g140.a y139.2.2.length g140.c]⟩) (some (fun wz => V.atN b6 0 [.int .i64 y34.1, .int .i64 y69.1, .slice g107.a y106.2.2.length g107.c, .slice g140.a y139.2.2.length g140.c] 0 wz)) [] Hb rfl (by kernel_rfl) (fun q e => by cases e; exact ((hS.bk 0 rfl).atD rfl))) fun _ _ hq => ⟨gL [], fun _ _ => hq.1, (hS.below hq.2.below).sel [0, 1, 2] rfl⟩
      ·intro o ho a w yg151 M Hb hv hO hS
       obtain rfl := Option.some.inj ho
       exact Stp.mono (o_evs [] (.bool false) none [] Hb rfl (by kernel_rfl) (fun q e => by cases e)) fun _ _ hq => ⟨gL [], fun _ _ => hq.1, (hS.below hq.2.below).sel [] rfl⟩
      ·intro o ho a w yg151 M Hb hv hO hS
       obtain rfl := Option.some.inj ho
       exact Stp.mono (o_evs [] (.bool false) none [] ((Hb).add (hv 1 (by decide) (by decide) 61 rfl)) rfl (by kernel_rfl) (fun q e => by cases e)) fun _ _ hq => ⟨gL [], fun _ _ => hq.1, (hS.below hq.2.below).sel [] rfl⟩
      ·intro o ho a w yg151 M Hb hv hO hS
       obtain rfl := Option.some.inj ho
       exact Stp.mono (o_evs [] (.bool false) none [] (((Hb).add (hv 2 (by decide) (by decide) 62 rfl)).add (hv 4 (by decide) (by decide) 64 rfl)) rfl (by kernel_rfl) (fun q e => by cases e)) fun _ _ hq => ⟨gL [], fun _ _ => hq.1, (hS.below hq.2.below).sel [] rfl⟩
      ·intro o ho a w yg151 M Hb hv hO hS0
       obtain rfl := Option.some.inj ho
       have H : Fr 66 ([(60, [], .agg ⟨[.int .i64 y34.1, .int .i64 y69.1, .slice g107.a y106.2.2.length g107.c, .slice g140.a y139.2.2.length g140.c]⟩)] ++ [(2, [], .pointer (some ⟨b1, 0, none⟩)), (4, [], .pointer (some ⟨b6, 0, none⟩)), (5, [], .pointer (some ⟨b11, 0, none⟩)), (12, [], .bool false)]) _ := (Hb).add (hv 0 (by decide) (by decide) 60 rfl)
       obtain ⟨X, hX⟩ : ∃ X, X = fpl [Ent.own 3 (tI .i64) y139.2.2 g140, Ent.im tS y106.2.2 g107, Ent.blk b1 [.int .i64 0, .int .i64 0, .slice none 0 0, .slice none 0 0]] := ⟨_, rfl⟩
       have hS : SH M X w [Ent.own 3 (tI .i64) y139.2.2 g140, Ent.im tS y106.2.2 g107, Ent.blk b1 [.int .i64 0, .int .i64 0, .slice none 0 0, .slice none 0 0]] w := by rw [hX]; exact hS0
       have hd := hS.hand [2] [0, 1] rfl rfl
       refine Stp.mono (o_store [.int .i64 y34.1, .int .i64 y69.1, .slice g107.a y106.2.2.length g107.c, .slice g140.a y139.2.2.length g140.c] H hd rfl rfl (by kernel_rfl) rfl rfl rfl) ?_
       rintro v w2 hq
       replace hS : SH M X w [Ent.blk b1 [.int .i64 y34.1, .int .i64 y69.1, .slice g107.a y106.2.2.length g107.c, .slice g140.a y139.2.2.length g140.c], Ent.own 3 (tI .i64) y139.2.2 g140, Ent.im tS y106.2.2 g107] _ := hS.join [2] [0, 1] rfl rfl hq
       clear hq
       rw [hX] at hS
       exact ⟨gL [], (fun _ h => by cases h), hS.sel [0, 1, 2] rfl⟩
      ·intro o ho a w yg151 M Hb hv hO hS
       obtain rfl := Option.some.inj ho
       exact Stp.mono (o_evs [] (.bool false) none [] ((Hb).add (hv 5 (by decide) (by decide) 65 rfl)) rfl (by kernel_rfl) (fun q e => by cases e)) fun _ _ hq => ⟨gL [], fun _ _ => hq.1, (hS.below hq.2.below).sel [] rfl⟩
     have H154 : Fr 66 [(3, [], .bool false), (2, [], .pointer (some ⟨b1, 0, none⟩))] _ := (FrG.add (FrG.keep (ks := [2]) H153 (by kernel_rfl)) (hv 7 3 rfl))
     replace hS : SH M X w [Ent.blk b1 [.int .i64 y34.1, .int .i64 y69.1, .slice g107.a y106.2.2.length g107.c, .slice g140.a y139.2.2.length g140.c], Ent.blk b11 [.string ⟨⟨y139.2.1⟩⟩], Ent.blk b6 [.int .i64 y34.1, .int .i64 y69.1, .slice g107.a y106.2.2.length g107.c, .slice g140.a y139.2.2.length g140.c], Ent.own 3 (tI .i64) y139.2.2 g140, Ent.im tS y106.2.2 g107, Ent.gifc 2, Ent.gifc 3] _ := hS
     clear hv H153
     replace hS : SH M X w [Ent.blk b1 [.int .i64 y34.1, .int .i64 y69.1, .slice g107.a y106.2.2.length g107.c, .slice g140.a y139.2.2.length g140.c], Ent.own 3 (tI .i64) y139.2.2 g140, Ent.im tS y106.2.2 g107, Ent.gifc 2, Ent.gifc 3] _ := hS.sel [0, 3, 4, 5, 6] rfl
     refine w_ret ?_
     obtain rfl := someE hm
     exact retR2 H154 rfl (oneRes_agg rfl (hS.bk 0 rfl) Tryd.underlying26 rfl (by kernel_rfl)) rfl ⟨_, rfl, g107, g140, rfl, (hS.sel [2, 1] rfl)⟩
    replace hm := bT rfl hm
    refine s_drawS (base := [(2, [], .pointer (some ⟨b1, 0, none⟩)), (4, [], .pointer (some ⟨b6, 0, none⟩)), (5, [], .pointer (some ⟨b11, 0, none⟩)), (12, [], .bool true)]) (L := [Ent.blk b11 [.string ⟨⟨y139.2.1⟩⟩], Ent.blk b6 [.int .i64 y34.1, .int .i64 y69.1, .slice g107.a y106.2.2.length g107.c, .slice g140.a y139.2.2.length g140.c], Ent.own 3 (tI .i64) y139.2.2 g140, Ent.im tS y106.2.2 g107, Ent.blk b1 [.int .i64 0, .int .i64 0, .slice none 0 0, .slice none 0 0], Ent.gifc 2, Ent.gifc 3]) 8 7 (fun yg147 => [.agg ⟨[.int .i64 y34.1, .int .i64 y69.1, .slice g107.a y106.2.2.length g107.c, .slice g140.a y139.2.2.length g140.c]⟩, .bool true, .bool true, .string ⟨⟨y139.2.1⟩⟩, .bool (y139.2.1 == []), .bool (y139.2.1 == []), undef, .bool (y139.2.1 == [])]) (fun yg147 => [[], [], [], [], [], [], [Ent.blk b1 [.int .i64 y34.1, .int .i64 y69.1, .slice g107.a y106.2.2.length g107.c, .slice g140.a y139.2.2.length g140.c]], []]) [[9, 10, 11], [], [], [8], [], [], [10, 11, 12], []] [[], [], [], [], [], [], [12], []] [[0], [1], [1, 2], [1, 2, 3], [1, 2, 3, 4], [1, 2, 3, 4, 5], [0, 6], [1, 2, 3, 4, 5, 7]] [] (FrG.keep (ks := [2, 4, 5, 12]) H145 (by kernel_rfl)) (fun _ _ h => by cases h) (by kernel_rfl) hS (by kernel_rfl) rfl rfl (by kernel_rfl) (by kernel_rfl) (by kernel_rfl) ⟨trivial, trivial, trivial, ⟨by kernel_rfl, fun _ => rfl⟩, ⟨by kernel_rfl, fun _ => rfl⟩, trivial, trivial, trivial, trivial⟩ ?hloc_yg147 ?hstep_yg147 fun _ wd148 yg147 H149 hv hS => ?hK_yg147
    case hloc_yg147 => exact ⟨(fun _ _ _ _ => ⟨rfl, rfl⟩), (fun _ _ _ _ => ⟨rfl, rfl⟩), (fun _ _ _ _ => ⟨rfl, rfl⟩), (fun _ _ _ _ => ⟨rfl, rfl⟩), (fun _ _ _ _ => ⟨rfl, rfl⟩), (fun _ _ _ _ => ⟨rfl, rfl⟩), (fun _ _ _ _ => ⟨rfl, rfl⟩), (fun _ _ _ _ => ⟨rfl, rfl⟩), trivial⟩
    case hstep_yg147 =>
     refine ⟨?_, ?_, ?_, ?_, ?_, ?_, ?_, ?_, trivial⟩
     ·intro o ho a w yg147 M Hb hv hO hS
      obtain rfl := Option.some.inj ho
      exact Stp.mono (o_evs [(.agg ⟨[.int .i64 y34.1, .int .i64 y69.1, .slice g107.a y106.2.2.length g107.c, .slice g140.a y139.2.2.length g140.c]⟩)] (.agg ⟨[.int .i64 y34.1, .int .i64 y69.1, .slice g107.a y106.2.2.length g107.c, .slice g140.a y139.2.2.length g140.c]⟩) (some (fun wz => V.atN b6 0 [.int .i64 y34.1, .int .i64 y69.1, .slice g107.a y106.2.2.length g107.c, .slice g140.a y139.2.2.length g140.c] 0 wz)) [] Hb rfl (by kernel_rfl) (fun q e => by cases e; exact ((hS.bk 0 rfl).atD rfl))) fun _ _ hq => ⟨gL [], fun _ _ => hq.1, (hS.below hq.2.below).sel [0, 1, 2] rfl⟩
     ·intro o ho a w yg147 M Hb hv hO hS
      obtain rfl := Option.some.inj ho
      exact Stp.mono (o_evs [] (.bool true) none [] Hb rfl (by kernel_rfl) (fun q e => by cases e)) fun _ _ hq => ⟨gL [], fun _ _ => hq.1, (hS.below hq.2.below).sel [] rfl⟩
     ·intro o ho a w yg147 M Hb hv hO hS
      obtain rfl := Option.some.inj ho
      exact Stp.mono (o_evs [] (.bool true) none [] ((Hb).add (hv 1 (by decide) (by decide) 61 rfl)) rfl (by kernel_rfl) (fun q e => by cases e)) fun _ _ hq => ⟨gL [], fun _ _ => hq.1, (hS.below hq.2.below).sel [] rfl⟩
     ·intro o ho a w yg147 M Hb hv hO hS
      obtain rfl := Option.some.inj ho
      exact Stp.mono (o_evs [(.string ⟨⟨y139.2.1⟩⟩)] (.string ⟨⟨y139.2.1⟩⟩) (some (fun wz => V.at1 ⟨b11, 0, none⟩ (.string ⟨⟨y139.2.1⟩⟩) wz)) [] Hb rfl (by kernel_rfl) (fun q e => by cases e; exact ((hS.bk 0 rfl).at1 rfl))) fun _ _ hq => ⟨gL [], fun _ _ => hq.1, (hS.below hq.2.below).sel [0] rfl⟩
     ·intro o ho a w yg147 M Hb hv hO hS
      obtain rfl := Option.some.inj ho
      exact Stp.mono (o_evs [] (.bool (y139.2.1 == [])) none [] ((Hb).add (hv 3 (by decide) (by decide) 63 rfl)) rfl (by kernel_rfl) (fun q e => by cases e)) fun _ _ hq => ⟨gL [], fun _ _ => hq.1, (hS.below hq.2.below).sel [] rfl⟩
     ·intro o ho a w yg147 M Hb hv hO hS
      obtain rfl := Option.some.inj ho
      exact Stp.mono (o_evs [] (.bool (y139.2.1 == [])) none [] (((Hb).add (hv 2 (by decide) (by decide) 62 rfl)).add (hv 4 (by decide) (by decide) 64 rfl)) rfl (by kernel_rfl) (fun q e => by cases e)) fun _ _ hq => ⟨gL [], fun _ _ => hq.1, (hS.below hq.2.below).sel [] rfl⟩
     ·intro o ho a w yg147 M Hb hv hO hS0
      obtain rfl := Option.some.inj ho
      have H : Fr 66 ([(60, [], .agg ⟨[.int .i64 y34.1, .int .i64 y69.1, .slice g107.a y106.2.2.length g107.c, .slice g140.a y139.2.2.length g140.c]⟩)] ++ [(2, [], .pointer (some ⟨b1, 0, none⟩)), (4, [], .pointer (some ⟨b6, 0, none⟩)), (5, [], .pointer (some ⟨b11, 0, none⟩)), (12, [], .bool true)]) _ := (Hb).add (hv 0 (by decide) (by decide) 60 rfl)
      obtain ⟨X, hX⟩ : ∃ X, X = fpl [Ent.own 3 (tI .i64) y139.2.2 g140, Ent.im tS y106.2.2 g107, Ent.blk b1 [.int .i64 0, .int .i64 0, .slice none 0 0, .slice none 0 0]] := ⟨_, rfl⟩
      have hS : SH M X w [Ent.own 3 (tI .i64) y139.2.2 g140, Ent.im tS y106.2.2 g107, Ent.blk b1 [.int .i64 0, .int .i64 0, .slice none 0 0, .slice none 0 0]] w := by rw [hX]; exact hS0
      have hd := hS.hand [2] [0, 1] rfl rfl
      refine Stp.mono (o_store [.int .i64 y34.1, .int .i64 y69.1, .slice g107.a y106.2.2.length g107.c, .slice g140.a y139.2.2.length g140.c] H hd rfl rfl (by kernel_rfl) rfl rfl rfl) ?_
      rintro v w2 hq
      replace hS : SH M X w [Ent.blk b1 [.int .i64 y34.1, .int .i64 y69.1, .slice g107.a y106.2.2.length g107.c, .slice g140.a y139.2.2.length g140.c], Ent.own 3 (tI .i64) y139.2.2 g140, Ent.im tS y106.2.2 g107] _ := hS.join [2] [0, 1] rfl rfl hq
      clear hq
      rw [hX] at hS
      exact ⟨gL [], (fun _ h => by cases h), hS.sel [0, 1, 2] rfl⟩
     ·intro o ho a w yg147 M Hb hv hO hS
      obtain rfl := Option.some.inj ho
      exact Stp.mono (o_evs [] (.bool (y139.2.1 == [])) none [] ((Hb).add (hv 5 (by decide) (by decide) 65 rfl)) rfl (by kernel_rfl) (fun q e => by cases e)) fun _ _ hq => ⟨gL [], fun _ _ => hq.1, (hS.below hq.2.below).sel [] rfl⟩
    have H150 : Fr 66 [(3, [], .bool (y139.2.1 == [])), (2, [], .pointer (some ⟨b1, 0, none⟩))] _ := (FrG.add (FrG.keep (ks := [2]) H149 (by kernel_rfl)) (hv 7 3 rfl))
    replace hS : SH M X w [Ent.blk b1 [.int .i64 y34.1, .int .i64 y69.1, .slice g107.a y106.2.2.length g107.c, .slice g140.a y139.2.2.length g140.c], Ent.blk b11 [.string ⟨⟨y139.2.1⟩⟩], Ent.blk b6 [.int .i64 y34.1, .int .i64 y69.1, .slice g107.a y106.2.2.length g107.c, .slice g140.a y139.2.2.length g140.c], Ent.own 3 (tI .i64) y139.2.2 g140, Ent.im tS y106.2.2 g107, Ent.gifc 2, Ent.gifc 3] _ := hS
    clear hv H149
    replace hS : SH M X w [Ent.blk b1 [.int .i64 y34.1, .int .i64 y69.1, .slice g107.a y106.2.2.length g107.c, .slice g140.a y139.2.2.length g140.c], Ent.own 3 (tI .i64) y139.2.2 g140, Ent.im tS y106.2.2 g107, Ent.gifc 2, Ent.gifc 3] _ := hS.sel [0, 3, 4, 5, 6] rfl
    refine w_ret ?_
    obtain rfl := someE hm
    exact retR2 H150 rfl (oneRes_agg rfl (hS.bk 0 rfl) Tryd.underlying26 rfl (by kernel_rfl)) rfl ⟨_, rfl, g107, g140, rfl, (hS.sel [2, 1] rfl)⟩
theorem answer_read_ok  (m : Nat) (s : Str) (r : TAnswer × Bool) (hm : answer_read m s = some r) (M : Av) (w : World) (hS : S0 M [Ent.gifc 2, Ent.gifc 3] w) : DoesX Tryd.prog 32 ⟨[.string ⟨⟨s⟩⟩]⟩ w (fun v w' => ∃ (g901 : Gh) (g903 : Gh), v = .tuple ⟨[.agg ⟨[.int .i64 r.1.Err, .int .i64 r.1.Num, .slice g901.a r.1.Texts.length g901.c, .slice g903.a r.1.Numbers.length g903.c]⟩, .bool r.2]⟩ ∧ SH M (fpl [Ent.gifc 2, Ent.gifc 3]) w [Ent.im tS r.1.Texts g901, Ent.own 3 (tI .i64) r.1.Numbers g903] w') := ⟨Tryd.call32 _, answer_read_w M m   s r hm w hS⟩

theorem answer_ReadLine_w  (M : Av) (m : Nat) (s : Str) (r : TAnswer × Int) (hm : answer_ReadLine m s = some r) (w : World) (hS : S0 M [Ent.gifc 2, Ent.gifc 3, Ent.tab 1 (Lib.pow10Tab.map fun z => Value.int .u64 z)] w) : Calls Tryd.prog 11 ⟨[.string ⟨⟨s⟩⟩]⟩ w (fun e w' => ∃ v, e = .returned v ∧ ∃ (g901 : Gh) (g903 : Gh), v = .tuple ⟨[.agg ⟨[.int .i64 r.1.Err, .int .i64 r.1.Num, .slice g901.a r.1.Texts.length g901.c, .slice g903.a r.1.Numbers.length g903.c]⟩, .int .i64 r.2]⟩ ∧ SH M (fpl [Ent.gifc 2, Ent.gifc 3, Ent.tab 1 (Lib.pow10Tab.map fun z => Value.int .u64 z)]) w [Ent.im tS r.1.Texts g901, Ent.own 3 (tI .i64) r.1.Numbers g903] w') := by
 rw [answer_ReadLine] at hm
 have hS0 : SH M (fpl [Ent.gifc 2, Ent.gifc 3, Ent.tab 1 (Lib.pow10Tab.map fun z => Value.int .u64 z)]) w [Ent.gifc 2, Ent.gifc 3, Ent.tab 1 (Lib.pow10Tab.map fun z => Value.int .u64 z)] w := hS
 generalize hX : fpl [Ent.gifc 2, Ent.gifc 3, Ent.tab 1 (Lib.pow10Tab.map fun z => Value.int .u64 z)] = X at hS0 ⊢
 clear hS hX
 have hS := hS0
 clear hS0
 refine calls_entryP Tryd.func11 rfl Tryd.ntmps11 rfl fun _ H => ?_
 refine w_seq ?_
 refine wl_start ?_
 have hd := hS.hand [] [0, 1, 2] rfl rfl
 refine m_stp [2, 0] [(0, [], .string ⟨⟨s⟩⟩)] H rfl rfl rfl rfl (o_alloc [.int .i64 0, .int .i64 0, .slice none 0 0, .slice none 0 0] (z := .agg ⟨[.int .i64 0, .int .i64 0, .slice none 0 0, .slice none 0 0]⟩) hd (by kernel_rfl) rfl) (fun _ => rfl) fun _ wd2 v H3 hq => ?_
 clear H hd
 obtain ⟨b1, rfl, hq⟩ := hq
 replace hS : SH M X w [Ent.blk b1 [.int .i64 0, .int .i64 0, .slice none 0 0, .slice none 0 0], Ent.gifc 2, Ent.gifc 3, Ent.tab 1 (Lib.pow10Tab.map fun z => Value.int .u64 z)] _ := hS.join [] [0, 1, 2] rfl rfl hq
 clear hq
 refine wl_batch 1 2 [] [0, 2] [(0, [], .string ⟨⟨s⟩⟩), (2, [], .pointer (some ⟨b1, 0, none⟩))] [] H3 (by decide) (by kernel_rfl) trivial fun _ wd4 H5 hb => ?_
 clear H3
 replace hS := hS.below hb
 clear hb
 refine wl_end rfl ?_
 refine w_seq ?_
 refine s_reg [] [0, 2, 10] [(0, [], .string ⟨⟨s⟩⟩), (2, [], .pointer (some ⟨b1, 0, none⟩)), (10, [], .bool (decide (90000 < (ln s))))] [] H5 (by kernel_rfl) trivial fun _ wd6 H7 hb => ?_
 clear H5
 replace hS := hS.below hb
 clear hb
 refine w_if H7 rfl (fun hc => ?c65) (fun hc => ?_)
 case c65 =>
  replace hm := bT hc hm
  refine w_seq ?_
  refine wl_start ?_
  refine wl_batch 0 1 [] [2, 11] [(2, [], .pointer (some ⟨b1, 0, none⟩)), (11, [], .agg ⟨[.int .i64 0, .int .i64 0, .slice none 0 0, .slice none 0 0]⟩)] [] H7 (by decide) (by kernel_rfl) trivial fun _ wd8 H9 hb => ?_
  clear H7
  replace hS := hS.below hb
  clear hb
  have hd := hS.hand [0] [1, 2, 3] rfl rfl
  refine m_stp0 [2] [(2, [], .pointer (some ⟨b1, 0, none⟩))] H9 rfl rfl rfl (o_store [.int .i64 0, .int .i64 0, .slice none 0 0, .slice none 0 0] H9 hd rfl rfl (by kernel_rfl) rfl rfl rfl) rfl fun _ wd10 H11 hq => ?_
  clear H9 hd
  obtain ⟨_, hq⟩ := hq
  replace hS : SH M X w [Ent.blk b1 [.int .i64 0, .int .i64 0, .slice none 0 0, .slice none 0 0], Ent.gifc 2, Ent.gifc 3, Ent.tab 1 (Lib.pow10Tab.map fun z => Value.int .u64 z)] _ := hS.join [0] [1, 2, 3] rfl rfl hq
  clear hq
  refine wl_batch 2 3 [] [2, 3] [(2, [], .pointer (some ⟨b1, 0, none⟩)), (3, [], .int .i64 28)] [] H11 (by decide) (by kernel_rfl) trivial fun _ wd12 H13 hb => ?_
  clear H11
  replace hS := hS.below hb
  clear hb
  refine wl_end rfl ?_
  refine w_ret ?_
  obtain rfl := someE hm
  replace hS : SH M X w [Ent.own 9 tS ([] : List Str) (.nil), Ent.blk b1 [.int .i64 0, .int .i64 0, .slice none 0 0, .slice none 0 0], Ent.gifc 2, Ent.gifc 3, Ent.tab 1 (Lib.pow10Tab.map fun z => Value.int .u64 z)] _ := hS.addNil 9 tS
  replace hS : SH M X w [Ent.im tS ([] : List Str) (.nil), Ent.blk b1 [.int .i64 0, .int .i64 0, .slice none 0 0, .slice none 0 0], Ent.gifc 2, Ent.gifc 3, Ent.tab 1 (Lib.pow10Tab.map fun z => Value.int .u64 z)] _ := SH.frz1 (hS.sel [0, 1, 2, 3, 4] rfl)
  replace hS : SH M X w [Ent.own 3 (tI .i64) ([] : List Int) (.nil), Ent.im tS ([] : List Str) (.nil), Ent.blk b1 [.int .i64 0, .int .i64 0, .slice none 0 0, .slice none 0 0], Ent.gifc 2, Ent.gifc 3, Ent.tab 1 (Lib.pow10Tab.map fun z => Value.int .u64 z)] _ := hS.addNil 3 (tI .i64)
  exact retR2 H13 rfl (oneRes_agg rfl (hS.bk 2 rfl) Tryd.underlying26 rfl (by kernel_rfl)) rfl ⟨_, rfl, Gh.nil, Gh.nil, rfl, (hS.sel [1, 0] rfl)⟩
 replace hm := bF hc hm
 refine w_skip ?_
 refine w_seq ?_
 refine wl_start ?_
 refine wl_batch 0 1 [] [0, 2, 13] [(0, [], .string ⟨⟨s⟩⟩), (2, [], .pointer (some ⟨b1, 0, none⟩)), (13, [], .string ⟨⟨s⟩⟩)] [] H7 (by decide) (by kernel_rfl) trivial fun _ wd16 H17 hb => ?_
 clear H7
 replace hS := hS.below hb
 clear hb
 obtain ⟨y18, hy18, hm⟩ := bindE hm
 have hd := hS.hand [1, 2] [0, 1, 2, 3] rfl rfl
 refine m_stp [14, 0, 2] [(0, [], .string ⟨⟨s⟩⟩), (2, [], .pointer (some ⟨b1, 0, none⟩))] H17 rfl rfl rfl rfl (o_callx H17 rfl rfl (answer_read_ok m _ _ hy18 _ _ hd)) (fun _ => rfl) fun _ wd23 v H24 hq => ?_
 clear H17 hd
 obtain ⟨g19, g21, rfl, hq⟩ := hq
 replace hS : SH M X w [Ent.im tS y18.1.Texts g19, Ent.own 3 (tI .i64) y18.1.Numbers g21, Ent.blk b1 [.int .i64 0, .int .i64 0, .slice none 0 0, .slice none 0 0], Ent.gifc 2, Ent.gifc 3, Ent.tab 1 (Lib.pow10Tab.map fun z => Value.int .u64 z)] _ := hS.join [1, 2] [0, 1, 2, 3] rfl rfl hq
 clear hq
 refine wl_batch 2 5 [] [0, 2, 15, 16] [(0, [], .string ⟨⟨s⟩⟩), (2, [], .pointer (some ⟨b1, 0, none⟩)), (15, [], .agg ⟨[.int .i64 y18.1.Err, .int .i64 y18.1.Num, .slice g19.a y18.1.Texts.length g19.c, .slice g21.a y18.1.Numbers.length g21.c]⟩), (16, [], .bool y18.2)] [] H24 (by decide) (by kernel_rfl) trivial fun _ wd25 H26 hb => ?_
 clear H24
 replace hS := hS.below hb
 clear hb
 have hd := hS.hand [] [0, 1, 2, 3, 4, 5] rfl rfl
 refine m_stp [4, 0, 2, 15, 16] [(0, [], .string ⟨⟨s⟩⟩), (2, [], .pointer (some ⟨b1, 0, none⟩)), (15, [], .agg ⟨[.int .i64 y18.1.Err, .int .i64 y18.1.Num, .slice g19.a y18.1.Texts.length g19.c, .slice g21.a y18.1.Numbers.length g21.c]⟩), (16, [], .bool y18.2)] H26 rfl rfl rfl rfl (o_alloc [.int .i64 0, .int .i64 0, .slice none 0 0, .slice none 0 0] (z := .agg ⟨[.int .i64 0, .int .i64 0, .slice none 0 0, .slice none 0 0]⟩) hd (by kernel_rfl) rfl) (fun _ => rfl) fun _ wd28 v H29 hq => ?_
 clear H26 hd
 obtain ⟨b27, rfl, hq⟩ := hq
 replace hS : SH M X w [Ent.blk b27 [.int .i64 0, .int .i64 0, .slice none 0 0, .slice none 0 0], Ent.im tS y18.1.Texts g19, Ent.own 3 (tI .i64) y18.1.Numbers g21, Ent.blk b1 [.int .i64 0, .int .i64 0, .slice none 0 0, .slice none 0 0], Ent.gifc 2, Ent.gifc 3, Ent.tab 1 (Lib.pow10Tab.map fun z => Value.int .u64 z)] _ := hS.join [] [0, 1, 2, 3, 4, 5] rfl rfl hq
 clear hq
 have hd := hS.hand [0] [1, 2, 3, 4, 5, 6] rfl rfl
 refine m_stp0 [0, 2, 4, 16] [(0, [], .string ⟨⟨s⟩⟩), (2, [], .pointer (some ⟨b1, 0, none⟩)), (4, [], .pointer (some ⟨b27, 0, none⟩)), (16, [], .bool y18.2)] H29 rfl rfl rfl (o_store [.int .i64 y18.1.Err, .int .i64 y18.1.Num, .slice g19.a y18.1.Texts.length g19.c, .slice g21.a y18.1.Numbers.length g21.c] H29 hd rfl rfl (by kernel_rfl) rfl rfl rfl) rfl fun _ wd30 H31 hq => ?_
 clear H29 hd
 obtain ⟨_, hq⟩ := hq
 replace hS : SH M X w [Ent.blk b27 [.int .i64 y18.1.Err, .int .i64 y18.1.Num, .slice g19.a y18.1.Texts.length g19.c, .slice g21.a y18.1.Numbers.length g21.c], Ent.im tS y18.1.Texts g19, Ent.own 3 (tI .i64) y18.1.Numbers g21, Ent.blk b1 [.int .i64 0, .int .i64 0, .slice none 0 0, .slice none 0 0], Ent.gifc 2, Ent.gifc 3, Ent.tab 1 (Lib.pow10Tab.map fun z => Value.int .u64 z)] _ := hS.join [0] [1, 2, 3, 4, 5, 6] rfl rfl hq
 clear hq
 refine wl_batch 7 8 [] [0, 2, 4, 5] [(0, [], .string ⟨⟨s⟩⟩), (2, [], .pointer (some ⟨b1, 0, none⟩)), (4, [], .pointer (some ⟨b27, 0, none⟩)), (5, [], .bool y18.2)] [] H31 (by decide) (by kernel_rfl) trivial fun _ wd32 H33 hb => ?_
 clear H31
 replace hS := hS.below hb
 clear hb
 refine wl_end rfl ?_
 refine w_seq ?_
 refine s_reg [] [0, 2, 4, 18] [(0, [], .string ⟨⟨s⟩⟩), (2, [], .pointer (some ⟨b1, 0, none⟩)), (4, [], .pointer (some ⟨b27, 0, none⟩)), (18, [], .bool (!y18.2))] [] H33 (by kernel_rfl) trivial fun _ wd34 H35 hb => ?_
 clear H33
 replace hS := hS.below hb
 clear hb
 refine w_if H35 rfl (fun hc => ?c64) (fun hc => ?_)
 case c64 =>
  replace hm := bT hc hm
  refine w_seq ?_
  refine wl_start ?_
  refine wl_batch 0 1 [] [2, 19] [(2, [], .pointer (some ⟨b1, 0, none⟩)), (19, [], .agg ⟨[.int .i64 0, .int .i64 0, .slice none 0 0, .slice none 0 0]⟩)] [] H35 (by decide) (by kernel_rfl) trivial fun _ wd36 H37 hb => ?_
  clear H35
  replace hS := hS.below hb
  clear hb
  have hd := hS.hand [3] [0, 1, 2, 4, 5, 6] rfl rfl
  refine m_stp0 [2] [(2, [], .pointer (some ⟨b1, 0, none⟩))] H37 rfl rfl rfl (o_store [.int .i64 0, .int .i64 0, .slice none 0 0, .slice none 0 0] H37 hd rfl rfl (by kernel_rfl) rfl rfl rfl) rfl fun _ wd38 H39 hq => ?_
  clear H37 hd
  obtain ⟨_, hq⟩ := hq
  replace hS : SH M X w [Ent.blk b1 [.int .i64 0, .int .i64 0, .slice none 0 0, .slice none 0 0], Ent.blk b27 [.int .i64 y18.1.Err, .int .i64 y18.1.Num, .slice g19.a y18.1.Texts.length g19.c, .slice g21.a y18.1.Numbers.length g21.c], Ent.im tS y18.1.Texts g19, Ent.own 3 (tI .i64) y18.1.Numbers g21, Ent.gifc 2, Ent.gifc 3, Ent.tab 1 (Lib.pow10Tab.map fun z => Value.int .u64 z)] _ := hS.join [3] [0, 1, 2, 4, 5, 6] rfl rfl hq
  clear hq
  refine wl_batch 2 3 [] [2, 3] [(2, [], .pointer (some ⟨b1, 0, none⟩)), (3, [], .int .i64 12)] [] H39 (by decide) (by kernel_rfl) trivial fun _ wd40 H41 hb => ?_
  clear H39
  replace hS := hS.below hb
  clear hb
  refine wl_end rfl ?_
  replace hS : SH M X w [Ent.blk b1 [.int .i64 0, .int .i64 0, .slice none 0 0, .slice none 0 0], Ent.gifc 2, Ent.gifc 3, Ent.tab 1 (Lib.pow10Tab.map fun z => Value.int .u64 z)] _ := hS.sel [0, 4, 5, 6] rfl
  refine w_ret ?_
  obtain rfl := someE hm
  replace hS : SH M X w [Ent.own 9 tS ([] : List Str) (.nil), Ent.blk b1 [.int .i64 0, .int .i64 0, .slice none 0 0, .slice none 0 0], Ent.gifc 2, Ent.gifc 3, Ent.tab 1 (Lib.pow10Tab.map fun z => Value.int .u64 z)] _ := hS.addNil 9 tS
  replace hS : SH M X w [Ent.im tS ([] : List Str) (.nil), Ent.blk b1 [.int .i64 0, .int .i64 0, .slice none 0 0, .slice none 0 0], Ent.gifc 2, Ent.gifc 3, Ent.tab 1 (Lib.pow10Tab.map fun z => Value.int .u64 z)] _ := SH.frz1 (hS.sel [0, 1, 2, 3, 4] rfl)
  replace hS : SH M X w [Ent.own 3 (tI .i64) ([] : List Int) (.nil), Ent.im tS ([] : List Str) (.nil), Ent.blk b1 [.int .i64 0, .int .i64 0, .slice none 0 0, .slice none 0 0], Ent.gifc 2, Ent.gifc 3, Ent.tab 1 (Lib.pow10Tab.map fun z => Value.int .u64 z)] _ := hS.addNil 3 (tI .i64)
  exact retR2 H41 rfl (oneRes_agg rfl (hS.bk 2 rfl) Tryd.underlying26 rfl (by kernel_rfl)) rfl ⟨_, rfl, Gh.nil, Gh.nil, rfl, (hS.sel [1, 0] rfl)⟩
 replace hm := bF hc hm
 refine w_skip ?_
 refine w_seq ?_
 obtain ⟨y44, hy44, hm⟩ := bindE hm
 refine s_reg [(.agg ⟨[.int .i64 y18.1.Err, .int .i64 y18.1.Num, .slice g19.a y18.1.Texts.length g19.c, .slice g21.a y18.1.Numbers.length g21.c]⟩), (.tuple ⟨[.string ⟨⟨y44.1⟩⟩, .int .i64 y44.2]⟩)] [0, 2, 4, 6, 7] [(0, [], .string ⟨⟨s⟩⟩), (2, [], .pointer (some ⟨b1, 0, none⟩)), (4, [], .pointer (some ⟨b27, 0, none⟩)), (6, [], .string ⟨⟨y44.1⟩⟩), (7, [], .int .i64 y44.2)] [fun wz => V.atN b27 0 [.int .i64 y18.1.Err, .int .i64 y18.1.Num, .slice g19.a y18.1.Texts.length g19.c, .slice g21.a y18.1.Numbers.length g21.c] 0 wz, fun wz => RetB Tryd.prog 9 ⟨[.agg ⟨[.int .i64 y18.1.Err, .int .i64 y18.1.Num, .slice g19.a y18.1.Texts.length g19.c, .slice g21.a y18.1.Numbers.length g21.c]⟩]⟩ (.tuple ⟨[.string ⟨⟨y44.1⟩⟩, .int .i64 y44.2]⟩) wz] H35 (by kernel_rfl) ⟨((hS.bk 0 rfl).atD rfl), (answer_Line_ok (g_a__0 := g19) (g_a__1 := g21) m _ _ hy44 _ (s0im (s0im (s0tab s0nil (hS.at 6 rfl)) (hS.osl 2 rfl)) (hS.im 1 rfl))), trivial⟩ fun _ wd45 H46 hb => ?_
 clear H35
 replace hS := hS.below hb
 clear hb
 refine s_reg [] [2, 4, 31] [(2, [], .pointer (some ⟨b1, 0, none⟩)), (4, [], .pointer (some ⟨b27, 0, none⟩)), (31, [], .bool (cond (y44.2 != 0) true (!(y44.1 == s))))] [] H46 (by kernel_rfl) trivial fun _ wd47 H48 hb => ?_
 clear H46
 replace hS := hS.below hb
 clear hb
 refine w_if H48 rfl (fun hc => ?_) (fun hc => ?c63)
 case c63 =>
  replace hm := bF hc hm
  refine w_skip ?_
  refine w_seq ?_
  refine wl_start ?_
  refine wl_batch 0 1 [(.agg ⟨[.int .i64 y18.1.Err, .int .i64 y18.1.Num, .slice g19.a y18.1.Texts.length g19.c, .slice g21.a y18.1.Numbers.length g21.c]⟩)] [2, 33] [(2, [], .pointer (some ⟨b1, 0, none⟩)), (33, [], .agg ⟨[.int .i64 y18.1.Err, .int .i64 y18.1.Num, .slice g19.a y18.1.Texts.length g19.c, .slice g21.a y18.1.Numbers.length g21.c]⟩)] [fun wz => V.atN b27 0 [.int .i64 y18.1.Err, .int .i64 y18.1.Num, .slice g19.a y18.1.Texts.length g19.c, .slice g21.a y18.1.Numbers.length g21.c] 0 wz] H48 (by decide) (by kernel_rfl) ⟨((hS.bk 0 rfl).atD rfl), trivial⟩ fun _ wd57 H58 hb => ?_
  clear H48
  replace hS := hS.below hb
  clear hb
  have hd := hS.hand [3] [0, 1, 2, 4, 5, 6] rfl rfl
  refine m_stp0 [2] [(2, [], .pointer (some ⟨b1, 0, none⟩))] H58 rfl rfl rfl (o_store [.int .i64 y18.1.Err, .int .i64 y18.1.Num, .slice g19.a y18.1.Texts.length g19.c, .slice g21.a y18.1.Numbers.length g21.c] H58 hd rfl rfl (by kernel_rfl) rfl rfl rfl) rfl fun _ wd59 H60 hq => ?_
  clear H58 hd
  obtain ⟨_, hq⟩ := hq
  replace hS : SH M X w [Ent.blk b1 [.int .i64 y18.1.Err, .int .i64 y18.1.Num, .slice g19.a y18.1.Texts.length g19.c, .slice g21.a y18.1.Numbers.length g21.c], Ent.blk b27 [.int .i64 y18.1.Err, .int .i64 y18.1.Num, .slice g19.a y18.1.Texts.length g19.c, .slice g21.a y18.1.Numbers.length g21.c], Ent.im tS y18.1.Texts g19, Ent.own 3 (tI .i64) y18.1.Numbers g21, Ent.gifc 2, Ent.gifc 3, Ent.tab 1 (Lib.pow10Tab.map fun z => Value.int .u64 z)] _ := hS.join [3] [0, 1, 2, 4, 5, 6] rfl rfl hq
  clear hq
  refine wl_batch 2 3 [] [2, 3] [(2, [], .pointer (some ⟨b1, 0, none⟩)), (3, [], .int .i64 0)] [] H60 (by decide) (by kernel_rfl) trivial fun _ wd61 H62 hb => ?_
  clear H60
  replace hS := hS.below hb
  clear hb
  refine wl_end rfl ?_
  replace hS : SH M X w [Ent.blk b1 [.int .i64 y18.1.Err, .int .i64 y18.1.Num, .slice g19.a y18.1.Texts.length g19.c, .slice g21.a y18.1.Numbers.length g21.c], Ent.im tS y18.1.Texts g19, Ent.own 3 (tI .i64) y18.1.Numbers g21, Ent.gifc 2, Ent.gifc 3, Ent.tab 1 (Lib.pow10Tab.map fun z => Value.int .u64 z)] _ := hS.sel [0, 2, 3, 4, 5, 6] rfl
  refine w_ret ?_
  obtain rfl := someE hm
  exact retR2 H62 rfl (oneRes_agg rfl (hS.bk 0 rfl) Tryd.underlying26 rfl (by kernel_rfl)) rfl ⟨_, rfl, g19, g21, rfl, (hS.sel [1, 2] rfl)⟩
 replace hm := bT hc hm
 refine w_seq ?_
 refine wl_start ?_
 refine wl_batch 0 1 [] [2, 32] [(2, [], .pointer (some ⟨b1, 0, none⟩)), (32, [], .agg ⟨[.int .i64 0, .int .i64 0, .slice none 0 0, .slice none 0 0]⟩)] [] H48 (by decide) (by kernel_rfl) trivial fun _ wd49 H50 hb => ?_
 clear H48
 replace hS := hS.below hb
 clear hb
 have hd := hS.hand [3] [0, 1, 2, 4, 5, 6] rfl rfl
 refine m_stp0 [2] [(2, [], .pointer (some ⟨b1, 0, none⟩))] H50 rfl rfl rfl (o_store [.int .i64 0, .int .i64 0, .slice none 0 0, .slice none 0 0] H50 hd rfl rfl (by kernel_rfl) rfl rfl rfl) rfl fun _ wd51 H52 hq => ?_
 clear H50 hd
 obtain ⟨_, hq⟩ := hq
 replace hS : SH M X w [Ent.blk b1 [.int .i64 0, .int .i64 0, .slice none 0 0, .slice none 0 0], Ent.blk b27 [.int .i64 y18.1.Err, .int .i64 y18.1.Num, .slice g19.a y18.1.Texts.length g19.c, .slice g21.a y18.1.Numbers.length g21.c], Ent.im tS y18.1.Texts g19, Ent.own 3 (tI .i64) y18.1.Numbers g21, Ent.gifc 2, Ent.gifc 3, Ent.tab 1 (Lib.pow10Tab.map fun z => Value.int .u64 z)] _ := hS.join [3] [0, 1, 2, 4, 5, 6] rfl rfl hq
 clear hq
 refine wl_batch 2 3 [] [2, 3] [(2, [], .pointer (some ⟨b1, 0, none⟩)), (3, [], .int .i64 12)] [] H52 (by decide) (by kernel_rfl) trivial fun _ wd53 H54 hb => ?_
 clear H52
 replace hS := hS.below hb
 clear hb
 refine wl_end rfl ?_
 replace hS : SH M X w [Ent.blk b1 [.int .i64 0, .int .i64 0, .slice none 0 0, .slice none 0 0], Ent.gifc 2, Ent.gifc 3, Ent.tab 1 (Lib.pow10Tab.map fun z => Value.int .u64 z)] _ := hS.sel [0, 4, 5, 6] rfl
 refine w_ret ?_
 obtain rfl := someE hm
 replace hS : SH M X w [Ent.own 9 tS ([] : List Str) (.nil), Ent.blk b1 [.int .i64 0, .int .i64 0, .slice none 0 0, .slice none 0 0], Ent.gifc 2, Ent.gifc 3, Ent.tab 1 (Lib.pow10Tab.map fun z => Value.int .u64 z)] _ := hS.addNil 9 tS
 replace hS : SH M X w [Ent.im tS ([] : List Str) (.nil), Ent.blk b1 [.int .i64 0, .int .i64 0, .slice none 0 0, .slice none 0 0], Ent.gifc 2, Ent.gifc 3, Ent.tab 1 (Lib.pow10Tab.map fun z => Value.int .u64 z)] _ := SH.frz1 (hS.sel [0, 1, 2, 3, 4] rfl)
 replace hS : SH M X w [Ent.own 3 (tI .i64) ([] : List Int) (.nil), Ent.im tS ([] : List Str) (.nil), Ent.blk b1 [.int .i64 0, .int .i64 0, .slice none 0 0, .slice none 0 0], Ent.gifc 2, Ent.gifc 3, Ent.tab 1 (Lib.pow10Tab.map fun z => Value.int .u64 z)] _ := hS.addNil 3 (tI .i64)
 exact retR2 H54 rfl (oneRes_agg rfl (hS.bk 2 rfl) Tryd.underlying26 rfl (by kernel_rfl)) rfl ⟨_, rfl, Gh.nil, Gh.nil, rfl, (hS.sel [1, 0] rfl)⟩
theorem answer_ReadLine_ok  (m : Nat) (s : Str) (r : TAnswer × Int) (hm : answer_ReadLine m s = some r) (M : Av) (w : World) (hS : S0 M [Ent.gifc 2, Ent.gifc 3, Ent.tab 1 (Lib.pow10Tab.map fun z => Value.int .u64 z)] w) : DoesX Tryd.prog 11 ⟨[.string ⟨⟨s⟩⟩]⟩ w (fun v w' => ∃ (g901 : Gh) (g903 : Gh), v = .tuple ⟨[.agg ⟨[.int .i64 r.1.Err, .int .i64 r.1.Num, .slice g901.a r.1.Texts.length g901.c, .slice g903.a r.1.Numbers.length g903.c]⟩, .int .i64 r.2]⟩ ∧ SH M (fpl [Ent.gifc 2, Ent.gifc 3, Ent.tab 1 (Lib.pow10Tab.map fun z => Value.int .u64 z)]) w [Ent.im tS r.1.Texts g901, Ent.own 3 (tI .i64) r.1.Numbers g903] w') := ⟨Tryd.call11 _, answer_ReadLine_w M m   s r hm w hS⟩

end Go.Proofs.YtipafpkdkhnjmaaDoor
