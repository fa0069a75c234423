/-
  What the Go functions compute, as Lean functions, and that a call returns just that. Printed by a program.
-/
import Derived.Test.YtfcnkhiohnjepaaDoorRows
import Derived.Test.YtfcnkhiohnjepaaDoorW25ob
import Derived.Test.YtfcnkhiohnjepaaDoorPX
set_option linter.unusedVariables false
set_option maxRecDepth 20000
set_option maxHeartbeats 4000000
namespace Go.Proofs.YtfcnkhiohnjepaaDoor
open Go.V Go.RowKit
/-- No kind of it stands in the table of spaces. -/
def okT (l : List TProp) : Bool := l.all fun x => x.Kinds.all fun k => !gl_strings_asciiSpace.contains k
theorem okT_ok {l : List TProp} (h : okT l = true) : ∀ x ∈ l, ∀ y ∈ x.Kinds, Value.int .u8 y ∉ gl_strings_asciiSpace.map fun z => Value.int .u8 z := fun x hx y hy hm => by
  obtain ⟨z, hz, he⟩ := List.mem_map.1 hm
  simp only [Value.int.injEq, true_and] at he
  subst he
  have := List.all_eq_true.1 (List.all_eq_true.1 h x hx) _ hy
  simp only [Bool.not_eq_true', List.contains_eq_mem, decide_eq_false_iff_not] at this
  exact this hz
abbrev tyPropL (lo : Nat) : Ty TProp := tyLow tyProp lo (fun x => x.Words.length) fun x => x.Kinds.length
abbrev gE9 : Ent := Ent.tab 0 (gl_strings_asciiSpace.map fun z => Value.int .u8 z)
def law25_PropsOwn_L2 (m : Nat) (v21 : List TProp) (v23 : Int) : Nat → Int → Option (Unit)
  | 0, _ => none
  | kk + 1, v30 =>
    chk (0 ≤ v23 ∧ v23 < ln v21) <|
    cond (decide (v30 < (ln ((gi v21 v23).Words)))) (
    chk (0 ≤ v30 ∧ v30 < ln (gi v21 v23).Words) <|
    law25_PropsOwn_L2 m v21 v23 kk (w64 (v30 + 1))) (
    some ())
def law25_PropsOwn_L3 (m : Nat) (v21 : List TProp) (v23 : Int) : Nat → Int → Option (Unit)
  | 0, _ => none
  | kk + 1, v42 =>
    chk (0 ≤ v23 ∧ v23 < ln v21) <|
    cond (decide (v42 < (ln ((gi v21 v23).Kinds)))) (
    chk (0 ≤ v42 ∧ v42 < ln (gi v21 v23).Kinds) <|
    law25_PropsOwn_L3 m v21 v23 kk (w64 (v42 + 1))) (
    some ())
def law25_PropsOwn_L1 (m : Nat)  : Nat → (List TProp) → Int → Option (List TProp)
  | 0, _, _ => none
  | kk + 1, v21, v23 =>
    cond (decide (v23 < (ln v21))) (
    Option.bind (
    Option.bind (
    law25_PropsOwn_L2 m v21 v23 m 0) fun (z27 : Unit) =>
    Option.bind (
    law25_PropsOwn_L3 m v21 v23 m 0) fun (z39 : Unit) =>
    chk (0 ≤ v23 ∧ v23 < ln v21) <|
    lt (setl v21 v23 (TProp.mk [] ((gi v21 v23).Inherited) ((gi v21 v23).Initial) ((gi v21 v23).Words) ((gi v21 v23).Kinds) ((gi v21 v23).Least))) fun q57 =>
    some q57) fun (z26 : List TProp) =>
    law25_PropsOwn_L1 m  kk z26 (w64 (v23 + 1))) (
    some v21)
def law25_PropsOwn_L4 (m : Nat) (name_ : Str) (y67 : List TProp) : Nat → Int → Int → Option (Int)
  | 0, _, _ => none
  | kk + 1, v79, v80 =>
    cond (decide (v80 < (ln y67))) (
    Option.bind (
    chk (0 ≤ v80 ∧ v80 < ln y67) <|
    cond (((gi y67 v80).Name) == name_) (
    some (w64 (v79 + 1))) (
    some v79)) fun (z83 : Int) =>
    law25_PropsOwn_L4 m name_ y67 kk z83 (w64 (v80 + 1))) (
    some v79)
def law25_PropsOwn (m : Nat) (name_ : Str) : Option (Bool) :=
  Option.bind (law25_alive m) fun y3 =>
  lt (cond (decide (200 < (ln name_))) true (!y3)) fun x6 =>
  cond x6 (
  some y3) (
  Option.bind (props_Table m) fun y11 =>
  chk (okT y11 = true) <|
  Option.bind (
  law25_PropsOwn_L1 m  m y11 0) fun (z18 : List TProp) =>
  Option.bind (props_Table m) fun y67 =>
  Option.bind (
  law25_PropsOwn_L4 m name_ y67 m 0 0) fun (z76 : Int) =>
  Option.bind (props_Find m name_) fun y95 =>
  Option.bind (
  lt (y3) fun x99 =>
  cond x99 (
  Option.bind (r25_Table) fun y104 =>
  Option.bind (r25_SameTable m y67 y104) fun y109 =>
  lt (cond (cond y109 (decide (z76 ≤ 1)) false) ((y95.2 == 0) == (z76 == 1)) false) fun x110 =>
  Option.bind (cond x110 (cond (z76 == 0) (some default) (props_Custom name_)) (some default)) fun y111 =>
  lt (cond x110 (cond (z76 == 0) true (!y111)) false) fun x112 =>
  some x112) (
  some false)) fun (z98 : Bool) =>
  some z98)
theorem law25_PropsOwn_w  (M : Av) (m : Nat) (name_ : Str) (r : Bool) (hm : law25_PropsOwn m name_ = some r) (w : World) (hS : S0 M [gE0, gE9] w) : Calls Tryd.prog 6 ⟨[.string ⟨⟨name_⟩⟩]⟩ w (fun e w' => ∃ v, e = .returned v ∧ v = .bool r ∧ SH M (fpl [gE0, gE9]) w [] w') := by
 rw [law25_PropsOwn] at hm
 have hS0 : SH M (fpl [gE0, gE9]) w [gE0, gE9] w := hS
 generalize hX : fpl [gE0, gE9] = X at hS0 ⊢
 clear hS hX
 have hS := hS0
 clear hS0
 refine calls_entryP Tryd.func6 rfl Tryd.ntmps6 rfl fun _ H => ?_
 refine s_reg [] [0] [(0, [], .string ⟨⟨name_⟩⟩)] [] H (by kernel_rfl) trivial fun _ wd1 H2 hb => ?_
 clear H
 replace hS := hS.below hb
 clear hb
 obtain ⟨y3, hy3, hm⟩ := bindE hm
 refine s_reg [(.bool y3)] [0, 3] [(0, [], .string ⟨⟨name_⟩⟩), (3, [], .bool y3)] [fun wz => RetB Tryd.prog 20 ⟨[]⟩ (.bool y3) wz] H2 (by kernel_rfl) ⟨(law25_alive_ok m _ hy3 _ (s0im s0nil (hS.im 0 rfl))), trivial⟩ fun _ wd4 H5 hb => ?_
 clear H2
 replace hS := hS.below hb
 clear hb
 refine w_seq ?_
 obtain ⟨x6, hx6, hm⟩ := letE hm
 refine s_reg [] [0, 3, 20] [(0, [], .string ⟨⟨name_⟩⟩), (3, [], .bool y3), (20, [], .bool x6)] [] H5 (by subst hx6; kernel_rfl) trivial fun _ wd7 H8 hb => ?_
 clear H5
 replace hS := hS.below hb
 clear hb
 refine w_if H8 rfl (fun hc => ?c143) (fun hc => ?_)
 case c143 =>
  replace hm := bT hc hm
  refine s_reg [] [2] [(2, [], .bool y3)] [] H8 (by kernel_rfl) trivial fun _ wd9 H10 hb => ?_
  clear H8
  replace hS := hS.below hb
  clear hb
  refine w_ret ?_
  obtain rfl := someE hm
  exact retR1 H10 rfl rfl ⟨_, rfl, rfl, (hS.sel [] rfl)⟩
 replace hm := bF hc hm
 refine w_skip ?_
 refine w_seq ?_
 refine wl_start ?_
 obtain ⟨y11, hy11, hm⟩ := bindE hm
 refine m_stp [22, 0, 3] [(0, [], .string ⟨⟨name_⟩⟩), (3, [], .bool y3)] H8 rfl rfl rfl rfl (o_callx H8 rfl rfl (props_Table_ok m _ hy11 _ _ (mx_call (hS.im 0 rfl)))) (fun _ => rfl) fun _ wd14 v H15 hq => ?_
 clear H8
 obtain ⟨g12, rfl, hq⟩ := hq
 obtain ⟨hk, hm⟩ := chkE hm
 obtain ⟨lo, hl0, hlo, hS⟩ := fresh_J (f0 := TProp.Words) (f1 := TProp.Kinds) (u0 := fun s => .string ⟨⟨s⟩⟩) (u1 := fun z => .int .u8 z) hS hq rfl rfl (fun _ _ => rfl) (fun _ _ => rfl) (fun _ _ _ _ h => ⟨tyProp_i0 h, tyProp_i1 h⟩) (fun _ _ _ _ h => by simp at h) (okT_ok hk)
 replace hS : SH M X w [Ent.own 51 (tyPropL lo) y11 g12, gE0] _ := hS
 clear hq
 refine wl_batch 1 2 [] [0, 3, 4] [(0, [], .string ⟨⟨name_⟩⟩), (3, [], .bool y3), (4, [], .slice g12.a y11.length g12.c)] [] H15 (by decide) (by kernel_rfl) trivial fun _ wd16 H17 hb => ?_
 clear H15
 replace hS := hS.below hb
 clear hb
 refine wl_end rfl ?_
 obtain ⟨z18, hz, hm⟩ := bindE hm
 refine w_cut (fun a' w' => ∃ (g66 : Gh), Fr 114 [(0, [], .string ⟨⟨name_⟩⟩), (3, [], .bool y3)] a' ∧ SH M X w [Ent.own 51 (tyPropL lo) z18 g66, gE0] w') ?_ ?_
 ·replace hm := hz
  refine s_reg [] [0, 3, 4, 5] [(0, [], .string ⟨⟨name_⟩⟩), (3, [], .bool y3), (4, [], .slice g12.a y11.length g12.c), (5, [], .int .i64 0)] [] H17 (by kernel_rfl) trivial fun _ wd19 H20 hb => ?_
  clear H17
  replace hS := hS.below hb
  clear hb
  refine w_block ?_
  refine w_loop (fun kk a' w' => ∃ (v21 : List TProp) (v23 : Int) (g22 : Gh), law25_PropsOwn_L1 m  kk v21 v23 = some _ ∧ Fr 114 [(0, [], .string ⟨⟨name_⟩⟩), (3, [], .bool y3), (4, [], .slice g22.a v21.length g22.c), (5, [], .int .i64 v23)] a' ∧ SH M X w [Ent.own 51 (tyPropL lo) v21 g22, gE0] w') ⟨_, y11, 0, g12, hm, FrG.keep (ks := [0, 3, 4, 5]) H20 (by kernel_rfl), hS⟩ ?_
  clear hm H20 hS
  rintro kk _ wd65 ⟨v21, v23, g22, hm, H, hS⟩
  cases kk with
  | zero => exact noneE hm
  | succ kk =>
   rw [law25_PropsOwn_L1] at hm
   refine w_seq ?_
   refine s_reg [] [0, 3, 4, 5, 26] [(0, [], .string ⟨⟨name_⟩⟩), (3, [], .bool y3), (4, [], .slice g22.a v21.length g22.c), (5, [], .int .i64 v23), (26, [], .bool (decide (v23 < (ln v21))))] [] H (by kernel_rfl) trivial fun _ wd24 H25 hb => ?_
   clear H
   replace hS := hS.below hb
   clear hb
   refine w_if H25 rfl (fun hc => ?_) (fun hc => ?c64)
   case c64 =>
    replace hm := bF hc hm
    refine w_exit rfl ?_
    obtain rfl := someE hm
    exact ⟨g22, FrG.keep (ks := [0, 3]) H25 (by kernel_rfl), hS⟩
   replace hm := bT hc hm
   refine w_skip ?_
   obtain ⟨z26, hz, hm⟩ := bindE hm
   refine w_cut (fun a' w' => ∃ (g60 : Gh), Fr 114 [(0, [], .string ⟨⟨name_⟩⟩), (3, [], .bool y3), (5, [], .int .i64 v23), (4, [], .slice g60.a z26.length g60.c)] a' ∧ SH M X w [Ent.own 51 (tyPropL lo) z26 g60, gE0] w') ?_ ?_
   ·replace hm := hz
    refine w_block ?_
    obtain ⟨z27, hz, hm⟩ := bindE hm
    refine w_cut (fun a' w' => Fr 114 [(0, [], .string ⟨⟨name_⟩⟩), (3, [], .bool y3), (4, [], .slice g22.a v21.length g22.c), (5, [], .int .i64 v23)] a' ∧ SH M X w [Ent.own 51 (tyPropL lo) v21 g22, gE0] w') ?_ ?_
    ·replace hm := hz
     refine s_reg [] [0, 3, 4, 5, 6] [(0, [], .string ⟨⟨name_⟩⟩), (3, [], .bool y3), (4, [], .slice g22.a v21.length g22.c), (5, [], .int .i64 v23), (6, [], .int .i64 0)] [] H25 (by kernel_rfl) trivial fun _ wd28 H29 hb => ?_
     clear H25
     replace hS := hS.below hb
     clear hb
     refine w_block ?_
     refine w_loop (fun kk a' w' => ∃ (v30 : Int), law25_PropsOwn_L2 m v21 v23 kk v30 = some _ ∧ Fr 114 [(0, [], .string ⟨⟨name_⟩⟩), (3, [], .bool y3), (4, [], .slice g22.a v21.length g22.c), (5, [], .int .i64 v23), (6, [], .int .i64 v30)] a' ∧ SH M X w [Ent.own 51 (tyPropL lo) v21 g22, gE0] w') ⟨_, 0, hm, FrG.keep (ks := [0, 3, 4, 5, 6]) H29 (by kernel_rfl), hS⟩ ?_
     clear hm H29 hS
     rintro kk _ wd38 ⟨v30, hm, H, hS⟩
     cases kk with
     | zero => exact noneE hm
     | succ kk =>
      rw [law25_PropsOwn_L2] at hm
      refine w_seq ?_
      obtain ⟨ho31, hm⟩ := chkE hm
      refine s_reg [(.slice (g22.s (v23).toNat 0).a (((gi v21 v23).Words).length) (g22.s (v23).toNat 0).c)] [0, 3, 4, 5, 6, 36] [(0, [], .string ⟨⟨name_⟩⟩), (3, [], .bool y3), (4, [], .slice g22.a v21.length g22.c), (5, [], .int .i64 v23), (6, [], .int .i64 v30), (36, [], .bool (decide (v30 < (ln ((gi v21 v23).Words)))))] [fun _ => oka g22.a ∧ 0 ≤ v23 ∧ v23 < ln v21, fun wz => V.at1 ⟨ab g22.a, ao g22.a + (v23).toNat * 12 + 9, none⟩ (.slice (g22.s (v23).toNat 0).a (((gi v21 v23).Words).length) (g22.s (v23).toNat 0).c) wz] H (by kernel_rfl) ⟨((hS.osl 0 rfl).oki ho31), ((hS.osl 0 rfl).at1 ho31 9 rfl), trivial⟩ fun _ wd32 H33 hb => ?_
      clear H
      replace hS := hS.below hb
      clear hb
      refine w_if H33 rfl (fun hc => ?_) (fun hc => ?c37)
      case c37 =>
       replace hm := bF hc hm
       refine w_exit rfl ?_
       obtain rfl := someE hm
       exact ⟨FrG.keep (ks := [0, 3, 4, 5]) H33 (by kernel_rfl), hS⟩
      replace hm := bT hc hm
      refine w_skip ?_
      obtain ⟨ho99, hm⟩ := chkE hm
      refine w_cut (fun a' w' => Fr 114 [(0, [], .string ⟨⟨name_⟩⟩), (3, [], .bool y3), (4, [], .slice g22.a v21.length g22.c), (5, [], .int .i64 v23), (6, [], .int .i64 v30)] a' ∧ SH M X w [Ent.own 51 (tyPropL lo) v21 g22, gE0] w') ?_ ?_
      ·refine w_block ?_
       refine wl_start ?_
       refine wl_batch 0 7 [(.slice (g22.s (v23).toNat 0).a (((gi v21 v23).Words).length) (g22.s (v23).toNat 0).c)] [0, 3, 4, 5, 6, 45] [(0, [], .string ⟨⟨name_⟩⟩), (3, [], .bool y3), (4, [], .slice g22.a v21.length g22.c), (5, [], .int .i64 v23), (6, [], .int .i64 v30), (45, [], .pointer (some ⟨ab (g22.s (v23).toNat 0).a, ao (g22.s (v23).toNat 0).a + (v30).toNat * 1, none⟩))] [fun _ => oka g22.a ∧ 0 ≤ v23 ∧ v23 < ln v21, fun wz => V.at1 ⟨ab g22.a, ao g22.a + (v23).toNat * 12 + 9, none⟩ (.slice (g22.s (v23).toNat 0).a (((gi v21 v23).Words).length) (g22.s (v23).toNat 0).c) wz, fun _ => oka (g22.s (v23).toNat 0).a ∧ 0 ≤ v30 ∧ v30 < ln ((gi v21 v23).Words)] H33 (by decide) (by kernel_rfl) ⟨((hS.osl 0 rfl).oki ho31), ((hS.osl 0 rfl).at1 ho31 9 rfl), RowL.oki ((hS.ow 0 rfl).el ho31).1 ho99, trivial⟩ fun _ wd97 H98 hb => ?_
       clear H33
       replace hS := hS.below hb
       clear hb
       refine m_stp0 [0, 3, 4, 5, 6] [(0, [], .string ⟨⟨name_⟩⟩), (3, [], .bool y3), (4, [], .slice g22.a v21.length g22.c), (5, [], .int .i64 v23), (6, [], .int .i64 v30)] H98 rfl rfl rfl (o_low H98 hS hl0 hlo rfl ((hS.ow 0 rfl).el ho31).1 ho99 rfl rfl (by kernel_rfl) rfl rfl) rfl fun _ wd99 H100 hq => ?_
       clear H98 hS
       obtain ⟨_, hS⟩ := hq
       refine wl_end rfl ?_
       exact ⟨FrG.keep (ks := [0, 3, 4, 5, 6]) H100 (by kernel_rfl), hS⟩
      ·rintro _ wd101 ⟨H, hS⟩
       refine w_reg [] [0, 3, 4, 5, 6] [(0, [], .string ⟨⟨name_⟩⟩), (3, [], .bool y3), (4, [], .slice g22.a v21.length g22.c), (5, [], .int .i64 v23), (6, [], .int .i64 (w64 (v30 + 1)))] [] H (by kernel_rfl) trivial fun _ wd102 H103 hb => ?_
       clear H
       replace hS := hS.below hb
       clear hb
       exact ⟨_, Nat.lt_succ_self _, w64 (v30 + 1), hm, FrG.keep (ks := [0, 3, 4, 5, 6]) H103 (by kernel_rfl), hS⟩
    ·rintro _ wd59 ⟨H, hS⟩
     obtain ⟨z39, hz, hm⟩ := bindE hm
     refine w_cut (fun a' w' => Fr 114 [(0, [], .string ⟨⟨name_⟩⟩), (3, [], .bool y3), (4, [], .slice g22.a v21.length g22.c), (5, [], .int .i64 v23)] a' ∧ SH M X w [Ent.own 51 (tyPropL lo) v21 g22, gE0] w') ?_ ?_
     ·replace hm := hz
      refine s_reg [] [0, 3, 4, 5, 7] [(0, [], .string ⟨⟨name_⟩⟩), (3, [], .bool y3), (4, [], .slice g22.a v21.length g22.c), (5, [], .int .i64 v23), (7, [], .int .i64 0)] [] H (by kernel_rfl) trivial fun _ wd40 H41 hb => ?_
      clear H
      replace hS := hS.below hb
      clear hb
      refine w_block ?_
      refine w_loop (fun kk a' w' => ∃ (v42 : Int), law25_PropsOwn_L3 m v21 v23 kk v42 = some _ ∧ Fr 114 [(0, [], .string ⟨⟨name_⟩⟩), (3, [], .bool y3), (4, [], .slice g22.a v21.length g22.c), (5, [], .int .i64 v23), (7, [], .int .i64 v42)] a' ∧ SH M X w [Ent.own 51 (tyPropL lo) v21 g22, gE0] w') ⟨_, 0, hm, FrG.keep (ks := [0, 3, 4, 5, 7]) H41 (by kernel_rfl), hS⟩ ?_
      clear hm H41 hS
      rintro kk _ wd50 ⟨v42, hm, H, hS⟩
      cases kk with
      | zero => exact noneE hm
      | succ kk =>
       rw [law25_PropsOwn_L3] at hm
       refine w_seq ?_
       obtain ⟨ho43, hm⟩ := chkE hm
       refine s_reg [(.slice (g22.s (v23).toNat 1).a (((gi v21 v23).Kinds).length) (g22.s (v23).toNat 1).c)] [0, 3, 4, 5, 7, 53] [(0, [], .string ⟨⟨name_⟩⟩), (3, [], .bool y3), (4, [], .slice g22.a v21.length g22.c), (5, [], .int .i64 v23), (7, [], .int .i64 v42), (53, [], .bool (decide (v42 < (ln ((gi v21 v23).Kinds)))))] [fun _ => oka g22.a ∧ 0 ≤ v23 ∧ v23 < ln v21, fun wz => V.at1 ⟨ab g22.a, ao g22.a + (v23).toNat * 12 + 10, none⟩ (.slice (g22.s (v23).toNat 1).a (((gi v21 v23).Kinds).length) (g22.s (v23).toNat 1).c) wz] H (by kernel_rfl) ⟨((hS.osl 0 rfl).oki ho43), ((hS.osl 0 rfl).at1 ho43 10 rfl), trivial⟩ fun _ wd44 H45 hb => ?_
       clear H
       replace hS := hS.below hb
       clear hb
       refine w_if H45 rfl (fun hc => ?_) (fun hc => ?c49)
       case c49 =>
        replace hm := bF hc hm
        refine w_exit rfl ?_
        obtain rfl := someE hm
        exact ⟨FrG.keep (ks := [0, 3, 4, 5]) H45 (by kernel_rfl), hS⟩
       replace hm := bT hc hm
       refine w_skip ?_
       obtain ⟨ho99, hm⟩ := chkE hm
       refine w_cut (fun a' w' => Fr 114 [(0, [], .string ⟨⟨name_⟩⟩), (3, [], .bool y3), (4, [], .slice g22.a v21.length g22.c), (5, [], .int .i64 v23), (7, [], .int .i64 v42)] a' ∧ SH M X w [Ent.own 51 (tyPropL lo) v21 g22, gE0] w') ?_ ?_
       ·refine w_block ?_
        refine wl_start ?_
        refine wl_batch 0 7 [(.slice (g22.s (v23).toNat 1).a (((gi v21 v23).Kinds).length) (g22.s (v23).toNat 1).c)] [0, 3, 4, 5, 7, 62] [(0, [], .string ⟨⟨name_⟩⟩), (3, [], .bool y3), (4, [], .slice g22.a v21.length g22.c), (5, [], .int .i64 v23), (7, [], .int .i64 v42), (62, [], .pointer (some ⟨ab (g22.s (v23).toNat 1).a, ao (g22.s (v23).toNat 1).a + (v42).toNat * 1, none⟩))] [fun _ => oka g22.a ∧ 0 ≤ v23 ∧ v23 < ln v21, fun wz => V.at1 ⟨ab g22.a, ao g22.a + (v23).toNat * 12 + 10, none⟩ (.slice (g22.s (v23).toNat 1).a (((gi v21 v23).Kinds).length) (g22.s (v23).toNat 1).c) wz, fun _ => oka (g22.s (v23).toNat 1).a ∧ 0 ≤ v42 ∧ v42 < ln ((gi v21 v23).Kinds)] H45 (by decide) (by kernel_rfl) ⟨((hS.osl 0 rfl).oki ho43), ((hS.osl 0 rfl).at1 ho43 10 rfl), RowL.oki ((hS.ow 0 rfl).el ho43).2 ho99, trivial⟩ fun _ wd97 H98 hb => ?_
        clear H45
        replace hS := hS.below hb
        clear hb
        refine m_stp0 [0, 3, 4, 5, 7] [(0, [], .string ⟨⟨name_⟩⟩), (3, [], .bool y3), (4, [], .slice g22.a v21.length g22.c), (5, [], .int .i64 v23), (7, [], .int .i64 v42)] H98 rfl rfl rfl (o_low H98 hS hl0 hlo rfl ((hS.ow 0 rfl).el ho43).2 ho99 rfl rfl (by kernel_rfl) rfl rfl) rfl fun _ wd99 H100 hq => ?_
        clear H98 hS
        obtain ⟨_, hS⟩ := hq
        refine wl_end rfl ?_
        exact ⟨FrG.keep (ks := [0, 3, 4, 5, 7]) H100 (by kernel_rfl), hS⟩
       ·rintro _ wd101 ⟨H, hS⟩
        refine w_reg [] [0, 3, 4, 5, 7] [(0, [], .string ⟨⟨name_⟩⟩), (3, [], .bool y3), (4, [], .slice g22.a v21.length g22.c), (5, [], .int .i64 v23), (7, [], .int .i64 (w64 (v42 + 1)))] [] H (by kernel_rfl) trivial fun _ wd102 H103 hb => ?_
        clear H
        replace hS := hS.below hb
        clear hb
        exact ⟨_, Nat.lt_succ_self _, w64 (v42 + 1), hm, FrG.keep (ks := [0, 3, 4, 5, 7]) H103 (by kernel_rfl), hS⟩
     ·rintro _ wd58 ⟨H, hS⟩
      refine wl_start ?_
      obtain ⟨ho51, hm⟩ := chkE hm
      refine wl_batch 0 4 [] [0, 3, 4, 5, 66] [(0, [], .string ⟨⟨name_⟩⟩), (3, [], .bool y3), (4, [], .slice g22.a v21.length g22.c), (5, [], .int .i64 v23), (66, [], .pointer (some ⟨ab g22.a, ao g22.a + (v23).toNat * 12, none⟩))] [fun _ => oka g22.a ∧ 0 ≤ v23 ∧ v23 < ln v21] H (by decide) (by kernel_rfl) ⟨((hS.osl 0 rfl).oki ho51), trivial⟩ fun _ wd52 H53 hb => ?_
      clear H
      replace hS := hS.below hb
      clear hb
      have hd := hS.hand [0] [1] rfl rfl
      refine m_stp0 [0, 3, 4, 5] [(0, [], .string ⟨⟨name_⟩⟩), (3, [], .bool y3), (4, [], .slice g22.a v21.length g22.c), (5, [], .int .i64 v23)] H53 rfl rfl rfl (o_estore (T := tyPropL lo) (g := g22) (q := v21) (ix := v23) (off := 0) (TProp.mk [] ((gi v21 v23).Inherited) ((gi v21 v23).Initial) ((gi v21 v23).Words) ((gi v21 v23).Kinds) ((gi v21 v23).Least)) (gL [(g22.s (v23).toNat 0), (g22.s (v23).toNat 1)]) H53 hd rfl rfl rfl rfl (by kernel_rfl) rfl rfl ho51 rfl ⟨((hd.ow 0 rfl).el ho51).1, ((hd.ow 0 rfl).el ho51).2⟩ rfl) rfl fun _ wd54 H55 hq => ?_
      clear H53 hd
      obtain ⟨_, hq⟩ := hq
      obtain ⟨s56, hq⟩ := hq
      obtain ⟨q57, hq57, hm⟩ := letE hm
      rw [← hq57] at hq
      have hn : v21.length = q57.length := by rw [hq57, setl_len]
      first | rw [hn] at H55 | skip
      first | rw [hn] at hS | skip
      clear hn
      replace hS : SH M X w [Ent.own 51 (tyPropL lo) q57 (Gh.mk g22.a g22.c s56), gE0] _ := hS.join [0] [1] rfl rfl hq
      clear hq
      refine wl_end rfl ?_
      obtain rfl := someE hm
      exact ⟨(Gh.mk g22.a g22.c s56), FrG.keep (ks := [0, 3, 5, 4]) H55 (by kernel_rfl), hS⟩
   ·rintro _ wd63 ⟨g60, H, hS⟩
    refine w_reg [] [0, 3, 4, 5] [(0, [], .string ⟨⟨name_⟩⟩), (3, [], .bool y3), (4, [], .slice g60.a z26.length g60.c), (5, [], .int .i64 (w64 (v23 + 1)))] [] H (by kernel_rfl) trivial fun _ wd61 H62 hb => ?_
    clear H
    replace hS := hS.below hb
    clear hb
    exact ⟨_, Nat.lt_succ_self _, z26, w64 (v23 + 1), g60, hm, FrG.keep (ks := [0, 3, 4, 5]) H62 (by kernel_rfl), hS⟩
 ·rintro _ wd142 ⟨g66, H, hS⟩
  replace hS : SH M X w [gE0] _ := hS.sel [1] rfl
  refine w_seq ?_
  refine wl_start ?_
  obtain ⟨y67, hy67, hm⟩ := bindE hm
  have hd := hS.hand [0] [0] rfl rfl
  refine m_stp [67, 0, 3] [(0, [], .string ⟨⟨name_⟩⟩), (3, [], .bool y3)] H rfl rfl rfl rfl (o_callx H rfl rfl (props_Table_ok m _ hy67 _ _ hd)) (fun _ => rfl) fun _ wd70 v H71 hq => ?_
  clear H hd
  obtain ⟨g68, rfl, hq⟩ := hq
  replace hS : SH M X w [Ent.own 51 tyProp y67 g68, gE0] _ := hS.join [0] [0] rfl rfl hq
  clear hq
  refine wl_batch 1 2 [] [0, 3, 8] [(0, [], .string ⟨⟨name_⟩⟩), (3, [], .bool y3), (8, [], .slice g68.a y67.length g68.c)] [] H71 (by decide) (by kernel_rfl) trivial fun _ wd72 H73 hb => ?_
  clear H71
  replace hS := hS.below hb
  clear hb
  refine wl_end rfl ?_
  refine s_reg [] [0, 3, 8, 9] [(0, [], .string ⟨⟨name_⟩⟩), (3, [], .bool y3), (8, [], .slice g68.a y67.length g68.c), (9, [], .int .i64 0)] [] H73 (by kernel_rfl) trivial fun _ wd74 H75 hb => ?_
  clear H73
  replace hS := hS.below hb
  clear hb
  obtain ⟨z76, hz, hm⟩ := bindE hm
  refine w_cut (fun a' w' => Fr 114 [(0, [], .string ⟨⟨name_⟩⟩), (3, [], .bool y3), (8, [], .slice g68.a y67.length g68.c), (9, [], .int .i64 z76)] a' ∧ SH M X w [Ent.own 51 tyProp y67 g68, gE0] w') ?_ ?_
  ·replace hm := hz
   refine s_reg [] [0, 3, 8, 9, 10] [(0, [], .string ⟨⟨name_⟩⟩), (3, [], .bool y3), (8, [], .slice g68.a y67.length g68.c), (9, [], .int .i64 0), (10, [], .int .i64 0)] [] H75 (by kernel_rfl) trivial fun _ wd77 H78 hb => ?_
   clear H75
   replace hS := hS.below hb
   clear hb
   refine w_block ?_
   refine w_loop (fun kk a' w' => ∃ (v79 : Int) (v80 : Int), law25_PropsOwn_L4 m name_ y67 kk v79 v80 = some _ ∧ Fr 114 [(0, [], .string ⟨⟨name_⟩⟩), (3, [], .bool y3), (8, [], .slice g68.a y67.length g68.c), (9, [], .int .i64 v79), (10, [], .int .i64 v80)] a' ∧ SH M X w [Ent.own 51 tyProp y67 g68, gE0] w') ⟨_, 0, 0, hm, FrG.keep (ks := [0, 3, 8, 9, 10]) H78 (by kernel_rfl), hS⟩ ?_
   clear hm H78 hS
   rintro kk _ wd94 ⟨v79, v80, hm, H, hS⟩
   cases kk with
   | zero => exact noneE hm
   | succ kk =>
    rw [law25_PropsOwn_L4] at hm
    refine w_seq ?_
    refine s_reg [] [0, 3, 8, 9, 10, 71] [(0, [], .string ⟨⟨name_⟩⟩), (3, [], .bool y3), (8, [], .slice g68.a y67.length g68.c), (9, [], .int .i64 v79), (10, [], .int .i64 v80), (71, [], .bool (decide (v80 < (ln y67))))] [] H (by kernel_rfl) trivial fun _ wd81 H82 hb => ?_
    clear H
    replace hS := hS.below hb
    clear hb
    refine w_if H82 rfl (fun hc => ?_) (fun hc => ?c93)
    case c93 =>
     replace hm := bF hc hm
     refine w_exit rfl ?_
     obtain rfl := someE hm
     exact ⟨FrG.keep (ks := [0, 3, 8, 9]) H82 (by kernel_rfl), hS⟩
    replace hm := bT hc hm
    refine w_skip ?_
    obtain ⟨z83, hz, hm⟩ := bindE hm
    refine w_cut (fun a' w' => Fr 114 [(0, [], .string ⟨⟨name_⟩⟩), (3, [], .bool y3), (8, [], .slice g68.a y67.length g68.c), (10, [], .int .i64 v80), (9, [], .int .i64 z83)] a' ∧ SH M X w [Ent.own 51 tyProp y67 g68, gE0] w') ?_ ?_
    ·replace hm := hz
     refine w_block ?_
     obtain ⟨ho84, hm⟩ := chkE hm
     refine s_reg [(.string ⟨⟨(gi y67 v80).Name⟩⟩)] [0, 3, 8, 9, 10, 80] [(0, [], .string ⟨⟨name_⟩⟩), (3, [], .bool y3), (8, [], .slice g68.a y67.length g68.c), (9, [], .int .i64 v79), (10, [], .int .i64 v80), (80, [], .bool (((gi y67 v80).Name) == name_))] [fun _ => oka g68.a ∧ 0 ≤ v80 ∧ v80 < ln y67, fun wz => V.at1 ⟨ab g68.a, ao g68.a + (v80).toNat * 12, none⟩ (.string ⟨⟨(gi y67 v80).Name⟩⟩) wz] H82 (by kernel_rfl) ⟨((hS.osl 0 rfl).oki ho84), ((hS.osl 0 rfl).at1 ho84 0 rfl), trivial⟩ fun _ wd85 H86 hb => ?_
     clear H82
     replace hS := hS.below hb
     clear hb
     refine w_if H86 rfl (fun hc => ?_) (fun hc => ?c89)
     case c89 =>
      replace hm := bF hc hm
      refine w_skip ?_
      obtain rfl := someE hm
      exact ⟨FrG.keep (ks := [0, 3, 8, 10, 9]) H86 (by kernel_rfl), hS⟩
     replace hm := bT hc hm
     refine w_reg [] [0, 3, 8, 9, 10] [(0, [], .string ⟨⟨name_⟩⟩), (3, [], .bool y3), (8, [], .slice g68.a y67.length g68.c), (9, [], .int .i64 (w64 (v79 + 1))), (10, [], .int .i64 v80)] [] H86 (by kernel_rfl) trivial fun _ wd87 H88 hb => ?_
     clear H86
     replace hS := hS.below hb
     clear hb
     obtain rfl := someE hm
     exact ⟨FrG.keep (ks := [0, 3, 8, 10, 9]) H88 (by kernel_rfl), hS⟩
    ·rintro _ wd92 ⟨H, hS⟩
     refine w_reg [] [0, 3, 8, 9, 10] [(0, [], .string ⟨⟨name_⟩⟩), (3, [], .bool y3), (8, [], .slice g68.a y67.length g68.c), (9, [], .int .i64 z83), (10, [], .int .i64 (w64 (v80 + 1)))] [] H (by kernel_rfl) trivial fun _ wd90 H91 hb => ?_
     clear H
     replace hS := hS.below hb
     clear hb
     exact ⟨_, Nat.lt_succ_self _, z83, w64 (v80 + 1), hm, FrG.keep (ks := [0, 3, 8, 9, 10]) H91 (by kernel_rfl), hS⟩
  ·rintro _ wd141 ⟨H, hS⟩
   obtain ⟨y95, hy95, hm⟩ := bindE hm
   refine s_reg [(.tuple ⟨[.int .i64 y95.1, .int .i64 y95.2]⟩)] [0, 3, 8, 9, 12] [(0, [], .string ⟨⟨name_⟩⟩), (3, [], .bool y3), (8, [], .slice g68.a y67.length g68.c), (9, [], .int .i64 z76), (12, [], .int .i64 y95.2)] [fun wz => RetB Tryd.prog 9 ⟨[.string ⟨⟨name_⟩⟩]⟩ (.tuple ⟨[.int .i64 y95.1, .int .i64 y95.2]⟩) wz] H (by kernel_rfl) ⟨(props_Find_ok m _ _ hy95 _ (s0im s0nil (hS.im 1 rfl))), trivial⟩ fun _ wd96 H97 hb => ?_
   clear H
   replace hS := hS.below hb
   clear hb
   obtain ⟨z98, hz, hm⟩ := bindE hm
   refine w_cut (fun a' w' => Fr 114 [(2, [], .bool z98)] a' ∧ SH M X w [Ent.own 51 tyProp y67 g68, gE0] w') ?_ ?_
   ·replace hm := hz
    refine wl_start ?_
    obtain ⟨x99, hx99, hm⟩ := letE hm
    refine wl_batch 0 2 [] [0, 8, 9, 12, 89] [(0, [], .string ⟨⟨name_⟩⟩), (8, [], .slice g68.a y67.length g68.c), (9, [], .int .i64 z76), (12, [], .int .i64 y95.2), (89, [], .bool x99)] [] H97 (by decide) (by subst hx99; kernel_rfl) trivial fun _ wd100 H101 hb => ?_
    clear H97
    replace hS := hS.below hb
    clear hb
    cases x99
    case true =>
     replace hm := bT rfl hm
     refine wl_batchM 2 3 [] [(0, 0), (9, 0), (12, 0), (89, 0), (90, 1)] [(0, [], .string ⟨⟨name_⟩⟩), (9, [], .int .i64 z76), (12, [], .int .i64 y95.2), (89, [], .bool true), (90, [], .slice g68.a y67.length g68.c)] [] H101 (by decide) (by kernel_rfl) trivial fun _ wd102 H103 hb => ?_
     clear H101
     replace hS := hS.below hb
     clear hb
     obtain ⟨y104, hy104, hm⟩ := bindE hm
     have hd := hS.hand [] [0, 1] rfl rfl
     refine m_stpG 89 [91, 0, 9, 12, 89, 90] [(0, [], .string ⟨⟨name_⟩⟩), (9, [], .int .i64 z76), (12, [], .int .i64 y95.2), (89, [], .bool true), (90, [], .slice g68.a y67.length g68.c)] H103 rfl rfl rfl rfl (o_callx H103 rfl rfl (r25_Table_ok _ hy104 _ _ hd)) (fun _ => rfl) fun _ wd107 v H108 hq => ?_
     clear H103 hd
     obtain ⟨g105, rfl, hq⟩ := hq
     replace hS : SH M X w [Ent.own 51 tyProp y104 g105, Ent.own 51 tyProp y67 g68, gE0] _ := hS.join [] [0, 1] rfl rfl hq
     clear hq
     obtain ⟨y109, hy109, hm⟩ := bindE hm
     obtain ⟨x110, hx110, hm⟩ := letE hm
     obtain ⟨y111, hy111, hm⟩ := bindE hm
     obtain ⟨x112, hx112, hm⟩ := letE hm
     refine wl_batch 4 27 [(.bool y109), (.bool y111)] [2] [(2, [], .bool x112)] [fun wz => (true = true ∧ True → RetB Tryd.prog 21 ⟨[.slice g68.a y67.length g68.c, .slice g105.a y104.length g105.c]⟩ (.bool y109) wz), fun wz => ((z76 == 0) = false ∧ x110 = true ∧ True → RetB Tryd.prog 15 ⟨[.string ⟨⟨name_⟩⟩]⟩ (.bool y111) wz)] H108 (by decide) (by subst hx110 hx112; kernel_rfl) ⟨fun hg => r25_SameTable_ok (g_a_ := g68) (g_b_ := g105) m _ _ _ hy109 _ (s0im (s0im s0nil (hS.osl 0 rfl)) (hS.osl 1 rfl)), fun hg => (props_Custom_ok _ _ (bF (hg.1) (bT (hg.2.1) hy111))).b, trivial⟩ fun _ wd113 H114 hb => ?_
     clear H108
     replace hS := hS.below hb
     clear hb
     refine wl_end rfl ?_
     replace hS : SH M X w [Ent.own 51 tyProp y67 g68, gE0] _ := hS.sel [1, 2] rfl
     obtain rfl := someE hm
     exact ⟨FrG.keep (ks := [2]) H114 (by kernel_rfl), hS⟩
    replace hm := bF rfl hm
    refine m_skipG 89 [90, 0, 9, 12, 89] [(90, [], undef), (0, [], .string ⟨⟨name_⟩⟩), (9, [], .int .i64 z76), (12, [], .int .i64 y95.2), (89, [], .bool false)] H101 rfl rfl rfl rfl rfl rfl fun _ H115 => ?_
    clear H101
    refine m_skipG 89 [91, 0, 9, 12, 89, 90] [(91, [], undef), (0, [], .string ⟨⟨name_⟩⟩), (9, [], .int .i64 z76), (12, [], .int .i64 y95.2), (89, [], .bool false), (90, [], undef)] H115 rfl rfl rfl rfl rfl rfl fun _ H116 => ?_
    clear H115
    refine m_skipG 89 [92, 0, 9, 12, 89] [(92, [], undef), (0, [], .string ⟨⟨name_⟩⟩), (9, [], .int .i64 z76), (12, [], .int .i64 y95.2), (89, [], .bool false)] H116 rfl rfl rfl rfl rfl rfl fun _ H117 => ?_
    clear H116
    refine wl_batch 5 7 [] [0, 9, 12, 94] [(0, [], .string ⟨⟨name_⟩⟩), (9, [], .int .i64 z76), (12, [], .int .i64 y95.2), (94, [], .bool false)] [] H117 (by decide) (by kernel_rfl) trivial fun _ wd118 H119 hb => ?_
    clear H117
    replace hS := hS.below hb
    clear hb
    refine m_skipG 94 [95, 0, 9, 12, 94] [(95, [], undef), (0, [], .string ⟨⟨name_⟩⟩), (9, [], .int .i64 z76), (12, [], .int .i64 y95.2), (94, [], .bool false)] H119 rfl rfl rfl rfl rfl rfl fun _ H120 => ?_
    clear H119
    refine m_skipG 94 [96, 0, 9, 12, 94] [(96, [], undef), (0, [], .string ⟨⟨name_⟩⟩), (9, [], .int .i64 z76), (12, [], .int .i64 y95.2), (94, [], .bool false)] H120 rfl rfl rfl rfl rfl rfl fun _ H121 => ?_
    clear H120
    refine wl_batch 9 11 [] [0, 9, 12, 98] [(0, [], .string ⟨⟨name_⟩⟩), (9, [], .int .i64 z76), (12, [], .int .i64 y95.2), (98, [], .bool false)] [] H121 (by decide) (by kernel_rfl) trivial fun _ wd122 H123 hb => ?_
    clear H121
    replace hS := hS.below hb
    clear hb
    refine m_skipG 98 [99, 0, 9, 98] [(99, [], undef), (0, [], .string ⟨⟨name_⟩⟩), (9, [], .int .i64 z76), (98, [], .bool false)] H123 rfl rfl rfl rfl rfl rfl fun _ H124 => ?_
    clear H123
    refine m_skipG 98 [100, 0, 9, 98] [(100, [], undef), (0, [], .string ⟨⟨name_⟩⟩), (9, [], .int .i64 z76), (98, [], .bool false)] H124 rfl rfl rfl rfl rfl rfl fun _ H125 => ?_
    clear H124
    refine m_skipG 98 [101, 0, 9, 98, 100] [(101, [], undef), (0, [], .string ⟨⟨name_⟩⟩), (9, [], .int .i64 z76), (98, [], .bool false), (100, [], undef)] H125 rfl rfl rfl rfl rfl rfl fun _ H126 => ?_
    clear H125
    refine m_skipG 98 [102, 0, 9, 98, 100] [(102, [], undef), (0, [], .string ⟨⟨name_⟩⟩), (9, [], .int .i64 z76), (98, [], .bool false), (100, [], undef)] H126 rfl rfl rfl rfl rfl rfl fun _ H127 => ?_
    clear H126
    refine m_skipG 98 [103, 0, 9, 98] [(103, [], undef), (0, [], .string ⟨⟨name_⟩⟩), (9, [], .int .i64 z76), (98, [], .bool false)] H127 rfl rfl rfl rfl rfl rfl fun _ H128 => ?_
    clear H127
    refine wl_batch 16 18 [] [0, 9, 105] [(0, [], .string ⟨⟨name_⟩⟩), (9, [], .int .i64 z76), (105, [], .bool false)] [] H128 (by decide) (by kernel_rfl) trivial fun _ wd129 H130 hb => ?_
    clear H128
    replace hS := hS.below hb
    clear hb
    refine m_skipG 105 [106, 0, 105] [(106, [], undef), (0, [], .string ⟨⟨name_⟩⟩), (105, [], .bool false)] H130 rfl rfl rfl rfl rfl rfl fun _ H131 => ?_
    clear H130
    refine m_skipG 105 [107, 0, 105] [(107, [], undef), (0, [], .string ⟨⟨name_⟩⟩), (105, [], .bool false)] H131 rfl rfl rfl rfl rfl rfl fun _ H132 => ?_
    clear H131
    refine m_skipG 105 [108, 0, 105] [(108, [], undef), (0, [], .string ⟨⟨name_⟩⟩), (105, [], .bool false)] H132 rfl rfl rfl rfl rfl rfl fun _ H133 => ?_
    clear H132
    refine m_skipU 108 [109, 105, 108] [(109, [], undef), (105, [], .bool false), (108, [], undef)] H133 rfl rfl rfl rfl rfl fun _ H134 => ?_
    clear H133
    refine m_skipU 108 [110, 105, 108] [(110, [], undef), (105, [], .bool false), (108, [], undef)] H134 rfl rfl rfl rfl rfl fun _ H135 => ?_
    clear H134
    refine m_skipU 108 [111, 105, 108] [(111, [], undef), (105, [], .bool false), (108, [], undef)] H135 rfl rfl rfl rfl rfl fun _ H136 => ?_
    clear H135
    refine m_skipG 105 [112, 105] [(112, [], undef), (105, [], .bool false)] H136 rfl rfl rfl rfl rfl rfl fun _ H137 => ?_
    clear H136
    refine wl_batch 25 27 [] [2] [(2, [], .bool false)] [] H137 (by decide) (by kernel_rfl) trivial fun _ wd138 H139 hb => ?_
    clear H137
    replace hS := hS.below hb
    clear hb
    refine wl_end rfl ?_
    obtain rfl := someE hm
    exact ⟨FrG.keep (ks := [2]) H139 (by kernel_rfl), hS⟩
   ·rintro _ wd140 ⟨H, hS⟩
    replace hS : SH M X w [gE0] _ := hS.sel [1] rfl
    refine w_ret ?_
    obtain rfl := someE hm
    exact retR1 H rfl rfl ⟨_, rfl, rfl, (hS.sel [] rfl)⟩
theorem law25_PropsOwn_ok  (m : Nat) (name_ : Str) (r : Bool) (hm : law25_PropsOwn m name_ = some r) (w : World) (hL : S0 F0 [gE0, Ent.tab 0 (gl_strings_asciiSpace.map fun z => Value.int .u8 z)] w ∧ fpl [gE0, Ent.tab 0 (gl_strings_asciiSpace.map fun z => Value.int .u8 z)] = []) : RetB Tryd.prog 6 ⟨[.string ⟨⟨name_⟩⟩]⟩ (.bool r) w := retB_of hL (Tryd.call6 _) (fun w' h => law25_PropsOwn_w F0 m   name_ r hm w' h)

end Go.Proofs.YtfcnkhiohnjepaaDoor
