/-
  What the Go functions compute, as Lean functions, and that a call returns just that. Printed by a program.
-/
import Derived.Test.YtbealjlgbfpadaaDoorRows
import Derived.Test.YtbealjlgbfpadaaDoorD
import Derived.Test.YtbealjlgbfpadaaDoorX
import Derived.Test.YtbealjlgbfpadaaDoorW06a
set_option linter.unusedVariables false
set_option maxRecDepth 20000
set_option maxHeartbeats 4000000
namespace Go.Proofs.YtbealjlgbfpadaaDoor
open Go.V Go.RowKit

def law06_FixedNames (m : Nat)  : Option (Bool) :=
  Option.bind (
  law06_FixedNames_L1 m  m 0) fun (z9 : Sum (Bool) (Unit)) => sumK z9 fun s_z9 =>
  Option.bind (fixed_Sum m []) fun y62 =>
  Option.bind (fixed_Within m 0 1 0) fun y65 =>
  Option.bind (fixed_Within m 5 1 1) fun y68 =>
  Option.bind (fixed_Read m [49, 112, 120]) fun y71 =>
  chk (0 ≤ (4001 : Int) ∧ (4001 : Int) ≤ (4001 : Int) ∧ (4001 : Int) ≤ 1099511627776) <|
  lt (List.replicate ((4001 : Int)).toNat (0 : Int)) fun q75 =>
  Option.bind (fixed_Read m (toB q75)) fun y80 =>
  Option.bind (fixed_Read m [43, 49, 46, 48, 101, 45, 49]) fun y83 =>
  Option.bind (fixed_Whole m (-1999)) fun y86 =>
  Option.bind (law06_times m (-1500) 2500 (-3750)) fun y89 =>
  Option.bind (cond y89 (law06_times m (-1) 999 0) (some default)) fun y90 =>
  Option.bind (cond (cond y89 y90 false) (law06_times m (-1001) 999 (-999)) (some default)) fun y91 =>
  Option.bind (cond (cond (cond y89 y90 false) y91 false) (law06_times m 1000000000000 (-1000000000000) (-1000000000000)) (some default)) fun y92 =>
  lt (cond (cond (cond y89 y90 false) y91 false) y92 false) fun x93 =>
  Option.bind (cond x93 (law06_times m 1000000000000 1000 1000000000000) (some default)) fun y94 =>
  Option.bind (cond (cond x93 y94 false) (law06_times m 999999999999 1000 999999999999) (some default)) fun y95 =>
  Option.bind (cond (cond (cond x93 y94 false) y95 false) (law06_times m 31622776 31622777 999999993568) (some default)) fun y96 =>
  lt (cond (cond (cond x93 y94 false) y95 false) y96 false) fun x97 =>
  Option.bind (cond x97 (law06_times m 1000000000 1000000001 1000000000000) (some default)) fun y98 =>
  Option.bind (law06_writes m 1000000000000 [49, 48, 48, 48, 48, 48, 48, 48, 48, 48]) fun y101 =>
  Option.bind (cond y101 (law06_writes m (-1000000000000) [45, 49, 48, 48, 48, 48, 48, 48, 48, 48, 48]) (some default)) fun y102 =>
  Option.bind (cond (cond y101 y102 false) (law06_writes m 999 [48, 46, 57, 57, 57]) (some default)) fun y103 =>
  Option.bind (cond (cond (cond y101 y102 false) y103 false) (law06_writes m 100 [48, 46, 49]) (some default)) fun y104 =>
  lt (cond (cond (cond y101 y102 false) y103 false) y104 false) fun x105 =>
  Option.bind (cond x105 (law06_writes m 10010 [49, 48, 46, 48, 49]) (some default)) fun y106 =>
  Option.bind (cond (cond x105 y106 false) (law06_writes m 1 [48, 46, 48, 48, 49]) (some default)) fun y107 =>
  lt (cond (cond (y62.2 == 0) (y62.1 == 0) false) (y65.2 == 2) false) fun x110 =>
  lt (cond (cond x110 (y68.2 == 0) false) (y68.1 == 1) false) fun x111 =>
  lt (cond (cond x111 (y71.2 == 12) false) (y80.2 == 28) false) fun x112 =>
  lt (cond (cond x112 (y83.2 == 0) false) (y83.1 == 100) false) fun x113 =>
  lt (cond (cond x113 (y86.2 == 0) false) (y86.1 == (-1000)) false) fun x114 =>
  lt (cond (cond x114 (cond x97 y98 false) false) (cond (cond x105 y106 false) y107 false) false) fun x115 =>
  Option.bind (cond x115 (law06_alive m) (some default)) fun y116 =>
  some (cond x115 y116 false)
theorem law06_FixedNames_w  (M : Av) (m : Nat)  (r : Bool) (hm : law06_FixedNames m = some r) (w : World) (hS : S0 M [] w) : Calls Tryd.prog 5 ⟨[]⟩ w (fun e w' => ∃ v, e = .returned v ∧ v = .bool r ∧ SH M (fpl []) w [] w') := by
  rw [law06_FixedNames] at hm
  have hS0 : SH M (fpl []) w [] w := hS
  generalize hX : fpl [] = X at hS0 ⊢
  clear hS hX
  have hS := hS0
  clear hS0
  refine calls_entryP Tryd.func5 rfl Tryd.ntmps5 rfl fun _ H => ?_
  refine s_reg [] [] [] [] H (by kernel_rfl) trivial fun _ wd1 H2 hb => ?_
  clear H
  replace hS := hS.below hb
  clear hb
  refine w_seq ?_
  refine wl_start ?_
  have hd : S0 (AvL M []) [] _ := hS.hand [] [] rfl rfl
  refine m_stp [33] [] H2 rfl rfl rfl rfl (o_lit (T := (tI .i64)) (E := 2) (zv := .int .i64 0) [.int .i64 1000000000001, .int .i64 (-1000000000001), .int .i64 9223372036854775807, .int .i64 (-9223372036854775808)] ([1000000000001, (-1000000000001), 9223372036854775807, (-9223372036854775808)] : List Int) [gL [], gL [], gL [], gL []] _ H2 hd rfl (by kernel_rfl) (by kernel_rfl) (by kernel_rfl) (by kernel_rfl) (by kernel_rfl) (by kernel_rfl) (by kernel_rfl) rfl (InnL.cons trivial (InnL.cons trivial (InnL.cons trivial (InnL.cons trivial InnL.nil))))) (fun _ => rfl) fun _ wd5 v H6 hq => ?_
  clear H2 hd
  obtain ⟨g3, rfl, hq⟩ := hq
  replace hS : SH M X w [Ent.own 2 (tI .i64) ([1000000000001, (-1000000000001), 9223372036854775807, (-9223372036854775808)] : List Int) g3] _ := hS.join [] [] rfl rfl hq
  clear hq
  refine wl_batch 1 2 [] [1] [(1, [], .slice g3.a 4 g3.c)] [] H6 (by decide) (by kernel_rfl) trivial fun _ wd7 H8 hb => ?_
  clear H6
  replace hS := hS.below hb
  clear hb
  refine wl_end rfl ?_
  obtain ⟨z9, hz, hm_z9⟩ := bindE hm
  refine w_cut (fun a' w' => ∃ s_z9 : Unit, z9 = Sum.inr s_z9 ∧ Fr 250 [] a' ∧ SH M X w [Ent.own 2 (tI .i64) ([1000000000001, (-1000000000001), 9223372036854775807, (-9223372036854775808)] : List Int) g3] w') ?_ ?_
  · replace hm := hz
    refine s_reg [] [1, 2] [(1, [], .slice g3.a 4 g3.c), (2, [], .int .i64 0)] [] H8 (by kernel_rfl) trivial fun _ wd10 H11 hb => ?_
    clear H8
    replace hS := hS.below hb
    clear hb
    refine w_block ?_
    refine w_loop (fun kk a' w' => ∃ (v12 : Int), law06_FixedNames_L1 m  kk v12 = some _ ∧ Fr 250 [(1, [], .slice g3.a 4 g3.c), (2, [], .int .i64 v12)] a' ∧ SH M X w [Ent.own 2 (tI .i64) ([1000000000001, (-1000000000001), 9223372036854775807, (-9223372036854775808)] : List Int) g3] w') ⟨_, 0, hm, Fr.keep (ks := [1, 2]) H11 (by kernel_rfl), hS⟩ ?_
    clear hm H11 hS
    rintro kk _ wd61 ⟨v12, hm, H, hS⟩
    cases kk with
    | zero => exact noneE hm
    | succ kk =>
      rw [law06_FixedNames_L1] at hm
      refine w_seq ?_
      refine s_reg [] [1, 2, 35] [(1, [], .slice g3.a 4 g3.c), (2, [], .int .i64 v12), (35, [], .bool (decide (v12 < 4)))] [] H (by kernel_rfl) trivial fun _ wd13 H14 hb => ?_
      clear H
      replace hS := hS.below hb
      clear hb
      refine w_if H14 rfl (fun hc => ?_) (fun hc => ?_)
      · replace hm := bT hc hm
        refine w_skip ?_
        refine w_seq ?_
        refine w_block ?_
        obtain ⟨ho15, hm⟩ := chkE hm
        obtain ⟨x16, hx16, hm⟩ := letE hm
        obtain ⟨y17, hy17, hm⟩ := bindE hm
        refine s_reg [(.int .i64 (gi ([1000000000001, (-1000000000001), 9223372036854775807, (-9223372036854775808)] : List Int) v12)), (.tuple ⟨[.string ⟨⟨y17.1⟩⟩, .int .i64 y17.2]⟩)] [1, 2, 4] [(1, [], .slice g3.a 4 g3.c), (2, [], .int .i64 v12), (4, [], .int .i64 y17.2)] [fun _ => oka g3.a ∧ 0 ≤ v12 ∧ v12 < ln ([1000000000001, (-1000000000001), 9223372036854775807, (-9223372036854775808)] : List Int), fun wz => V.at1 ⟨ab g3.a, ao g3.a + (v12).toNat * 1, none⟩ (.int .i64 (gi ([1000000000001, (-1000000000001), 9223372036854775807, (-9223372036854775808)] : List Int) v12)) wz, fun wz => RetB Tryd.prog 8 ⟨[.int .i64 x16]⟩ (.tuple ⟨[.string ⟨⟨y17.1⟩⟩, .int .i64 y17.2]⟩) wz] H14 (by subst hx16; kernel_rfl) ⟨((hS.osl 0 rfl).oki ho15), ((hS.osl 0 rfl).at1 ho15 0 rfl), ((fixed_Write_ok m _ _ hy17).b), trivial⟩ fun _ wd18 H19 hb => ?_
        clear H14
        replace hS := hS.below hb
        clear hb
        refine w_seq ?_
        refine wl_start ?_
        obtain ⟨x20, hx20, hm⟩ := letE hm
        refine wl_batch 0 4 [(.int .i64 (gi ([1000000000001, (-1000000000001), 9223372036854775807, (-9223372036854775808)] : List Int) v12))] [1, 2, 4, 50] [(1, [], .slice g3.a 4 g3.c), (2, [], .int .i64 v12), (4, [], .int .i64 y17.2), (50, [], .int .i64 x20)] [fun _ => oka g3.a ∧ 0 ≤ v12 ∧ v12 < ln ([1000000000001, (-1000000000001), 9223372036854775807, (-9223372036854775808)] : List Int), fun wz => V.at1 ⟨ab g3.a, ao g3.a + (v12).toNat * 1, none⟩ (.int .i64 (gi ([1000000000001, (-1000000000001), 9223372036854775807, (-9223372036854775808)] : List Int) v12)) wz] H19 (by decide) (by subst hx20; kernel_rfl) ⟨((hS.osl 0 rfl).oki ho15), ((hS.osl 0 rfl).at1 ho15 0 rfl), trivial⟩ fun _ wd21 H22 hb => ?_
        clear H19
        replace hS := hS.below hb
        clear hb
        have hd : S0 (AvL M [Ent.own 2 (tI .i64) ([1000000000001, (-1000000000001), 9223372036854775807, (-9223372036854775808)] : List Int) g3]) [] _ := hS.hand [] [0] rfl rfl
        refine m_stp [51, 1, 2, 4] [(1, [], .slice g3.a 4 g3.c), (2, [], .int .i64 v12), (4, [], .int .i64 y17.2)] H22 rfl rfl rfl rfl (o_lit (T := (tI .i64)) (E := 2) (zv := .int .i64 0) [.int .i64 0, .int .i64 x20] ([0, x20] : List Int) [gL [], gL []] _ H22 hd rfl (by kernel_rfl) (by kernel_rfl) (by kernel_rfl) (by kernel_rfl) (by kernel_rfl) (by kernel_rfl) (by kernel_rfl) rfl (InnL.cons trivial (InnL.cons trivial InnL.nil))) (fun _ => rfl) fun _ wd25 v H26 hq => ?_
        clear H22 hd
        obtain ⟨g23, rfl, hq⟩ := hq
        replace hS : SH M X w [Ent.own 2 (tI .i64) ([0, x20] : List Int) g23, Ent.own 2 (tI .i64) ([1000000000001, (-1000000000001), 9223372036854775807, (-9223372036854775808)] : List Int) g3] _ := hS.join [] [0] rfl rfl hq
        clear hq
        obtain ⟨y27, hy27, hm⟩ := bindE hm
        refine wl_batch 5 11 [(.tuple ⟨[.int .i64 y27.1, .int .i64 y27.2]⟩)] [1, 2, 4, 6] [(1, [], .slice g3.a 4 g3.c), (2, [], .int .i64 v12), (4, [], .int .i64 y17.2), (6, [], .int .i64 y27.2)] [fun wz => RetB Tryd.prog 16 ⟨[.slice g23.a 2 g23.c]⟩ (.tuple ⟨[.int .i64 y27.1, .int .i64 y27.2]⟩) wz] H26 (by decide) (by kernel_rfl) ⟨(fixed_Sum_ok (g_l_ := g23) m _ _ hy27 _ (s0im s0nil (hS.osl 0 rfl))), trivial⟩ fun _ wd28 H29 hb => ?_
        clear H26
        replace hS := hS.below hb
        clear hb
        refine wl_end rfl ?_
        replace hS : SH M X w [Ent.own 2 (tI .i64) ([1000000000001, (-1000000000001), 9223372036854775807, (-9223372036854775808)] : List Int) g3] _ := hS.sel [1] rfl
        obtain ⟨x30, hx30, hm⟩ := letE hm
        obtain ⟨y31, hy31, hm⟩ := bindE hm
        refine s_reg [(.int .i64 (gi ([1000000000001, (-1000000000001), 9223372036854775807, (-9223372036854775808)] : List Int) v12)), (.tuple ⟨[.int .i64 y31.1, .int .i64 y31.2]⟩)] [1, 2, 4, 6, 8] [(1, [], .slice g3.a 4 g3.c), (2, [], .int .i64 v12), (4, [], .int .i64 y17.2), (6, [], .int .i64 y27.2), (8, [], .int .i64 y31.2)] [fun _ => oka g3.a ∧ 0 ≤ v12 ∧ v12 < ln ([1000000000001, (-1000000000001), 9223372036854775807, (-9223372036854775808)] : List Int), fun wz => V.at1 ⟨ab g3.a, ao g3.a + (v12).toNat * 1, none⟩ (.int .i64 (gi ([1000000000001, (-1000000000001), 9223372036854775807, (-9223372036854775808)] : List Int) v12)) wz, fun wz => RetB Tryd.prog 17 ⟨[.int .i64 0, .int .i64 x30]⟩ (.tuple ⟨[.int .i64 y31.1, .int .i64 y31.2]⟩) wz] H29 (by subst hx30; kernel_rfl) ⟨((hS.osl 0 rfl).oki ho15), ((hS.osl 0 rfl).at1 ho15 0 rfl), ((fixed_Mul_ok m _ _ _ hy31).b), trivial⟩ fun _ wd32 H33 hb => ?_
        clear H29
        replace hS := hS.below hb
        clear hb
        obtain ⟨x34, hx34, hm⟩ := letE hm
        obtain ⟨y35, hy35, hm⟩ := bindE hm
        refine s_reg [(.int .i64 (gi ([1000000000001, (-1000000000001), 9223372036854775807, (-9223372036854775808)] : List Int) v12)), (.tuple ⟨[.int .i64 y35.1, .int .i64 y35.2]⟩)] [1, 2, 4, 6, 8, 10] [(1, [], .slice g3.a 4 g3.c), (2, [], .int .i64 v12), (4, [], .int .i64 y17.2), (6, [], .int .i64 y27.2), (8, [], .int .i64 y31.2), (10, [], .int .i64 y35.2)] [fun _ => oka g3.a ∧ 0 ≤ v12 ∧ v12 < ln ([1000000000001, (-1000000000001), 9223372036854775807, (-9223372036854775808)] : List Int), fun wz => V.at1 ⟨ab g3.a, ao g3.a + (v12).toNat * 1, none⟩ (.int .i64 (gi ([1000000000001, (-1000000000001), 9223372036854775807, (-9223372036854775808)] : List Int) v12)) wz, fun wz => RetB Tryd.prog 17 ⟨[.int .i64 x34, .int .i64 0]⟩ (.tuple ⟨[.int .i64 y35.1, .int .i64 y35.2]⟩) wz] H33 (by subst hx34; kernel_rfl) ⟨((hS.osl 0 rfl).oki ho15), ((hS.osl 0 rfl).at1 ho15 0 rfl), ((fixed_Mul_ok m _ _ _ hy35).b), trivial⟩ fun _ wd36 H37 hb => ?_
        clear H33
        replace hS := hS.below hb
        clear hb
        obtain ⟨x38, hx38, hm⟩ := letE hm
        obtain ⟨y39, hy39, hm⟩ := bindE hm
        refine s_reg [(.int .i64 (gi ([1000000000001, (-1000000000001), 9223372036854775807, (-9223372036854775808)] : List Int) v12)), (.tuple ⟨[.int .i64 y39.1, .int .i64 y39.2]⟩)] [1, 2, 4, 6, 8, 10, 12] [(1, [], .slice g3.a 4 g3.c), (2, [], .int .i64 v12), (4, [], .int .i64 y17.2), (6, [], .int .i64 y27.2), (8, [], .int .i64 y31.2), (10, [], .int .i64 y35.2), (12, [], .int .i64 y39.2)] [fun _ => oka g3.a ∧ 0 ≤ v12 ∧ v12 < ln ([1000000000001, (-1000000000001), 9223372036854775807, (-9223372036854775808)] : List Int), fun wz => V.at1 ⟨ab g3.a, ao g3.a + (v12).toNat * 1, none⟩ (.int .i64 (gi ([1000000000001, (-1000000000001), 9223372036854775807, (-9223372036854775808)] : List Int) v12)) wz, fun wz => RetB Tryd.prog 10 ⟨[.int .i64 x38]⟩ (.tuple ⟨[.int .i64 y39.1, .int .i64 y39.2]⟩) wz] H37 (by subst hx38; kernel_rfl) ⟨((hS.osl 0 rfl).oki ho15), ((hS.osl 0 rfl).at1 ho15 0 rfl), ((fixed_Whole_ok m _ _ hy39).b), trivial⟩ fun _ wd40 H41 hb => ?_
        clear H37
        replace hS := hS.below hb
        clear hb
        obtain ⟨x42, hx42, hm⟩ := letE hm
        obtain ⟨y43, hy43, hm⟩ := bindE hm
        refine s_reg [(.int .i64 (gi ([1000000000001, (-1000000000001), 9223372036854775807, (-9223372036854775808)] : List Int) v12)), (.tuple ⟨[.int .i64 y43.1, .int .i64 y43.2]⟩)] [1, 2, 4, 6, 8, 10, 12, 14] [(1, [], .slice g3.a 4 g3.c), (2, [], .int .i64 v12), (4, [], .int .i64 y17.2), (6, [], .int .i64 y27.2), (8, [], .int .i64 y31.2), (10, [], .int .i64 y35.2), (12, [], .int .i64 y39.2), (14, [], .int .i64 y43.2)] [fun _ => oka g3.a ∧ 0 ≤ v12 ∧ v12 < ln ([1000000000001, (-1000000000001), 9223372036854775807, (-9223372036854775808)] : List Int), fun wz => V.at1 ⟨ab g3.a, ao g3.a + (v12).toNat * 1, none⟩ (.int .i64 (gi ([1000000000001, (-1000000000001), 9223372036854775807, (-9223372036854775808)] : List Int) v12)) wz, fun wz => RetB Tryd.prog 18 ⟨[.int .i64 x42, .int .i64 1, .int .i64 0]⟩ (.tuple ⟨[.int .i64 y43.1, .int .i64 y43.2]⟩) wz] H41 (by subst hx42; kernel_rfl) ⟨((hS.osl 0 rfl).oki ho15), ((hS.osl 0 rfl).at1 ho15 0 rfl), ((fixed_Within_ok m _ _ _ _ hy43).b), trivial⟩ fun _ wd44 H45 hb => ?_
        clear H41
        replace hS := hS.below hb
        clear hb
        obtain ⟨x46, hx46, hm⟩ := letE hm
        obtain ⟨y47, hy47, hm⟩ := bindE hm
        refine s_reg [(.int .i64 (gi ([1000000000001, (-1000000000001), 9223372036854775807, (-9223372036854775808)] : List Int) v12)), (.tuple ⟨[.int .i64 y47.1, .int .i64 y47.2]⟩)] [1, 2, 4, 6, 8, 10, 12, 14, 16] [(1, [], .slice g3.a 4 g3.c), (2, [], .int .i64 v12), (4, [], .int .i64 y17.2), (6, [], .int .i64 y27.2), (8, [], .int .i64 y31.2), (10, [], .int .i64 y35.2), (12, [], .int .i64 y39.2), (14, [], .int .i64 y43.2), (16, [], .int .i64 y47.2)] [fun _ => oka g3.a ∧ 0 ≤ v12 ∧ v12 < ln ([1000000000001, (-1000000000001), 9223372036854775807, (-9223372036854775808)] : List Int), fun wz => V.at1 ⟨ab g3.a, ao g3.a + (v12).toNat * 1, none⟩ (.int .i64 (gi ([1000000000001, (-1000000000001), 9223372036854775807, (-9223372036854775808)] : List Int) v12)) wz, fun wz => RetB Tryd.prog 18 ⟨[.int .i64 0, .int .i64 x46, .int .i64 0]⟩ (.tuple ⟨[.int .i64 y47.1, .int .i64 y47.2]⟩) wz] H45 (by subst hx46; kernel_rfl) ⟨((hS.osl 0 rfl).oki ho15), ((hS.osl 0 rfl).at1 ho15 0 rfl), ((fixed_Within_ok m _ _ _ _ hy47).b), trivial⟩ fun _ wd48 H49 hb => ?_
        clear H45
        replace hS := hS.below hb
        clear hb
        obtain ⟨x50, hx50, hm⟩ := letE hm
        obtain ⟨y51, hy51, hm⟩ := bindE hm
        obtain ⟨x52, hx52, hm⟩ := letE hm
        obtain ⟨x53, hx53, hm⟩ := letE hm
        obtain ⟨x54, hx54, hm⟩ := letE hm
        refine s_reg [(.int .i64 (gi ([1000000000001, (-1000000000001), 9223372036854775807, (-9223372036854775808)] : List Int) v12)), (.int .i64 y51)] [1, 2, 128] [(1, [], .slice g3.a 4 g3.c), (2, [], .int .i64 v12), (128, [], .bool (cond x54 true (y47.2 != 8)))] [fun _ => oka g3.a ∧ 0 ≤ v12 ∧ v12 < ln ([1000000000001, (-1000000000001), 9223372036854775807, (-9223372036854775808)] : List Int), fun wz => V.at1 ⟨ab g3.a, ao g3.a + (v12).toNat * 1, none⟩ (.int .i64 (gi ([1000000000001, (-1000000000001), 9223372036854775807, (-9223372036854775808)] : List Int) v12)) wz, fun wz => RetB Tryd.prog 12 ⟨[.int .i64 x50]⟩ (.int .i64 y51) wz] H49 (by subst hx50 hx52 hx53 hx54; kernel_rfl) ⟨((hS.osl 0 rfl).oki ho15), ((hS.osl 0 rfl).at1 ho15 0 rfl), ((fixed_Check_ok m _ _ hy51).b), trivial⟩ fun _ wd55 H56 hb => ?_
        clear H49
        replace hS := hS.below hb
        clear hb
        refine w_if H56 rfl (fun hc => ?_) (fun hc => ?_)
        · replace hm := bT hc hm
          refine s_reg [] [0] [(0, [], .bool false)] [] H56 (by kernel_rfl) trivial fun _ wd57 H58 hb => ?_
          clear H56
          replace hS := hS.below hb
          clear hb
          refine w_ret ?_
          obtain rfl := someE hm
          have hm := hm_z9
          obtain rfl := someE hm
          exact retR1 H58 rfl rfl ⟨_, rfl, rfl, (hS.sel [] rfl)⟩
        · replace hm := bF hc hm
          refine w_skip ?_
          refine w_reg [] [1, 2] [(1, [], .slice g3.a 4 g3.c), (2, [], .int .i64 (w64 (v12 + 1)))] [] H56 (by kernel_rfl) trivial fun _ wd59 H60 hb => ?_
          clear H56
          replace hS := hS.below hb
          clear hb
          exact ⟨_, Nat.lt_succ_self _, w64 (v12 + 1), hm, Fr.keep (ks := [1, 2]) H60 (by kernel_rfl), hS⟩
      · replace hm := bF hc hm
        refine w_exit rfl ?_
        obtain rfl := someE hm
        exact ⟨_, rfl, Fr.keep (ks := []) H14 (by kernel_rfl), hS⟩
  · rintro _ wd119 ⟨s_z9, hz, H, hS⟩
    subst hz
    replace hm := sumR hm_z9
    replace hS : SH M X w [] _ := hS.sel [] rfl
    obtain ⟨y62, hy62, hm⟩ := bindE hm
    refine s_reg [(.tuple ⟨[.int .i64 y62.1, .int .i64 y62.2]⟩)] [17, 18] [(17, [], .int .i64 y62.1), (18, [], .int .i64 y62.2)] [fun wz => RetB Tryd.prog 16 ⟨[.slice none 0 0]⟩ (.tuple ⟨[.int .i64 y62.1, .int .i64 y62.2]⟩) wz] H (by kernel_rfl) ⟨(fixed_Sum_ok (g_l_ := Gh.nil) m _ _ hy62 _ (s0im s0nil (SlG.nil (M := F0) (g := Gh.nil)))), trivial⟩ fun _ wd63 H64 hb => ?_
    clear H
    replace hS := hS.below hb
    clear hb
    obtain ⟨y65, hy65, hm⟩ := bindE hm
    refine s_reg [(.tuple ⟨[.int .i64 y65.1, .int .i64 y65.2]⟩)] [17, 18, 20] [(17, [], .int .i64 y62.1), (18, [], .int .i64 y62.2), (20, [], .int .i64 y65.2)] [fun wz => RetB Tryd.prog 18 ⟨[.int .i64 0, .int .i64 1, .int .i64 0]⟩ (.tuple ⟨[.int .i64 y65.1, .int .i64 y65.2]⟩) wz] H64 (by kernel_rfl) ⟨((fixed_Within_ok m _ _ _ _ hy65).b), trivial⟩ fun _ wd66 H67 hb => ?_
    clear H64
    replace hS := hS.below hb
    clear hb
    obtain ⟨y68, hy68, hm⟩ := bindE hm
    refine s_reg [(.tuple ⟨[.int .i64 y68.1, .int .i64 y68.2]⟩)] [17, 18, 20, 21, 22] [(17, [], .int .i64 y62.1), (18, [], .int .i64 y62.2), (20, [], .int .i64 y65.2), (21, [], .int .i64 y68.1), (22, [], .int .i64 y68.2)] [fun wz => RetB Tryd.prog 18 ⟨[.int .i64 5, .int .i64 1, .int .i64 1]⟩ (.tuple ⟨[.int .i64 y68.1, .int .i64 y68.2]⟩) wz] H67 (by kernel_rfl) ⟨((fixed_Within_ok m _ _ _ _ hy68).b), trivial⟩ fun _ wd69 H70 hb => ?_
    clear H67
    replace hS := hS.below hb
    clear hb
    obtain ⟨y71, hy71, hm⟩ := bindE hm
    refine s_reg [(.tuple ⟨[.int .i64 y71.1, .int .i64 y71.2]⟩)] [17, 18, 20, 21, 22, 24] [(17, [], .int .i64 y62.1), (18, [], .int .i64 y62.2), (20, [], .int .i64 y65.2), (21, [], .int .i64 y68.1), (22, [], .int .i64 y68.2), (24, [], .int .i64 y71.2)] [fun wz => RetB Tryd.prog 6 ⟨[.string ⟨⟨[49, 112, 120]⟩⟩]⟩ (.tuple ⟨[.int .i64 y71.1, .int .i64 y71.2]⟩) wz] H70 (by kernel_rfl) ⟨((fixed_Read_ok m _ _ hy71).b), trivial⟩ fun _ wd72 H73 hb => ?_
    clear H70
    replace hS := hS.below hb
    clear hb
    refine w_seq ?_
    refine wl_start ?_
    obtain ⟨ho74, hm⟩ := chkE hm
    obtain ⟨q75, hq75, hm⟩ := letE hm
    have hd : S0 (AvL M []) [] _ := hS.hand [] [] rfl rfl
    refine m_stp [146, 17, 18, 20, 21, 22, 24] [(17, [], .int .i64 y62.1), (18, [], .int .i64 y62.2), (20, [], .int .i64 y65.2), (21, [], .int .i64 y68.1), (22, [], .int .i64 y68.2), (24, [], .int .i64 y71.2)] H73 rfl rfl rfl rfl (o_make (T := (tI .u8)) (E := 5) (zv := .int .u8 0) (0 : Int) H73 hd rfl rfl (by kernel_rfl) (by kernel_rfl) rfl rfl (fun _ _ => trivial) ho74) (fun _ => rfl) fun _ wd76 v H77 hq => ?_
    clear H73 hd
    obtain ⟨g78, rfl, hq⟩ := hq
    rw [← hq75] at hq
    rw [← hq75] at H77
    replace hS : SH M X w [Ent.own 5 (tI .u8) q75 g78] _ := hS.join [] [] rfl rfl hq
    clear hq
    obtain ⟨y80, hy80, hm⟩ := bindE hm
    refine wl_batch 1 8 [(.string ⟨⟨toB q75⟩⟩), (.tuple ⟨[.int .i64 y80.1, .int .i64 y80.2]⟩)] [17, 18, 20, 21, 22, 24, 26] [(17, [], .int .i64 y62.1), (18, [], .int .i64 y62.2), (20, [], .int .i64 y65.2), (21, [], .int .i64 y68.1), (22, [], .int .i64 y68.2), (24, [], .int .i64 y71.2), (26, [], .int .i64 y80.2)] [fun wz => ∀ w', Below wz.heap.size wz w' → (convert 43 9 (.slice g78.a q75.length g78.c)).run Tryd.prog w' = .ok (.string ⟨⟨toB q75⟩⟩) w', fun wz => RetB Tryd.prog 6 ⟨[.string ⟨⟨toB q75⟩⟩]⟩ (.tuple ⟨[.int .i64 y80.1, .int .i64 y80.2]⟩) wz] H77 (by decide) (by kernel_rfl) ⟨(conv_slG (E := 5) (by kernel_rfl) (by kernel_rfl) (by kernel_rfl) (hS.osl 0 rfl)), ((fixed_Read_ok m _ _ hy80).b), trivial⟩ fun _ wd81 H82 hb => ?_
    clear H77
    replace hS := hS.below hb
    clear hb
    refine wl_end rfl ?_
    replace hS : SH M X w [] _ := hS.sel [] rfl
    obtain ⟨y83, hy83, hm⟩ := bindE hm
    refine s_reg [(.tuple ⟨[.int .i64 y83.1, .int .i64 y83.2]⟩)] [17, 18, 20, 21, 22, 24, 26, 27, 28] [(17, [], .int .i64 y62.1), (18, [], .int .i64 y62.2), (20, [], .int .i64 y65.2), (21, [], .int .i64 y68.1), (22, [], .int .i64 y68.2), (24, [], .int .i64 y71.2), (26, [], .int .i64 y80.2), (27, [], .int .i64 y83.1), (28, [], .int .i64 y83.2)] [fun wz => RetB Tryd.prog 6 ⟨[.string ⟨⟨[43, 49, 46, 48, 101, 45, 49]⟩⟩]⟩ (.tuple ⟨[.int .i64 y83.1, .int .i64 y83.2]⟩) wz] H82 (by kernel_rfl) ⟨((fixed_Read_ok m _ _ hy83).b), trivial⟩ fun _ wd84 H85 hb => ?_
    clear H82
    replace hS := hS.below hb
    clear hb
    obtain ⟨y86, hy86, hm⟩ := bindE hm
    refine s_reg [(.tuple ⟨[.int .i64 y86.1, .int .i64 y86.2]⟩)] [17, 18, 20, 21, 22, 24, 26, 27, 28, 29, 30] [(17, [], .int .i64 y62.1), (18, [], .int .i64 y62.2), (20, [], .int .i64 y65.2), (21, [], .int .i64 y68.1), (22, [], .int .i64 y68.2), (24, [], .int .i64 y71.2), (26, [], .int .i64 y80.2), (27, [], .int .i64 y83.1), (28, [], .int .i64 y83.2), (29, [], .int .i64 y86.1), (30, [], .int .i64 y86.2)] [fun wz => RetB Tryd.prog 10 ⟨[.int .i64 (-1999)]⟩ (.tuple ⟨[.int .i64 y86.1, .int .i64 y86.2]⟩) wz] H85 (by kernel_rfl) ⟨((fixed_Whole_ok m _ _ hy86).b), trivial⟩ fun _ wd87 H88 hb => ?_
    clear H85
    replace hS := hS.below hb
    clear hb
    obtain ⟨y89, hy89, hm⟩ := bindE hm
    obtain ⟨y90, hy90, hm⟩ := bindE hm
    obtain ⟨y91, hy91, hm⟩ := bindE hm
    obtain ⟨y92, hy92, hm⟩ := bindE hm
    obtain ⟨x93, hx93, hm⟩ := letE hm
    obtain ⟨y94, hy94, hm⟩ := bindE hm
    obtain ⟨y95, hy95, hm⟩ := bindE hm
    obtain ⟨y96, hy96, hm⟩ := bindE hm
    obtain ⟨x97, hx97, hm⟩ := letE hm
    obtain ⟨y98, hy98, hm⟩ := bindE hm
    refine s_reg [(.bool y89), (.bool y90), (.bool y91), (.bool y92), (.bool y94), (.bool y95), (.bool y96), (.bool y98)] [17, 18, 20, 21, 22, 24, 26, 27, 28, 29, 30, 31] [(17, [], .int .i64 y62.1), (18, [], .int .i64 y62.2), (20, [], .int .i64 y65.2), (21, [], .int .i64 y68.1), (22, [], .int .i64 y68.2), (24, [], .int .i64 y71.2), (26, [], .int .i64 y80.2), (27, [], .int .i64 y83.1), (28, [], .int .i64 y83.2), (29, [], .int .i64 y86.1), (30, [], .int .i64 y86.2), (31, [], .bool (cond x97 y98 false))] [fun wz => RetB Tryd.prog 19 ⟨[.int .i64 (-1500), .int .i64 2500, .int .i64 (-3750)]⟩ (.bool y89) wz, fun wz => (y89 = true ∧ True → RetB Tryd.prog 19 ⟨[.int .i64 (-1), .int .i64 999, .int .i64 0]⟩ (.bool y90) wz), fun wz => ((cond y89 y90 false) = true ∧ True → RetB Tryd.prog 19 ⟨[.int .i64 (-1001), .int .i64 999, .int .i64 (-999)]⟩ (.bool y91) wz), fun wz => ((cond (cond y89 y90 false) y91 false) = true ∧ True → RetB Tryd.prog 19 ⟨[.int .i64 1000000000000, .int .i64 (-1000000000000), .int .i64 (-1000000000000)]⟩ (.bool y92) wz), fun wz => (x93 = true ∧ True → RetB Tryd.prog 19 ⟨[.int .i64 1000000000000, .int .i64 1000, .int .i64 1000000000000]⟩ (.bool y94) wz), fun wz => ((cond x93 y94 false) = true ∧ True → RetB Tryd.prog 19 ⟨[.int .i64 999999999999, .int .i64 1000, .int .i64 999999999999]⟩ (.bool y95) wz), fun wz => ((cond (cond x93 y94 false) y95 false) = true ∧ True → RetB Tryd.prog 19 ⟨[.int .i64 31622776, .int .i64 31622777, .int .i64 999999993568]⟩ (.bool y96) wz), fun wz => (x97 = true ∧ True → RetB Tryd.prog 19 ⟨[.int .i64 1000000000, .int .i64 1000000001, .int .i64 1000000000000]⟩ (.bool y98) wz)] H88 (by subst hx93 hx97; kernel_rfl) ⟨((law06_times_ok m _ _ _ _ hy89).b), fun hg => (law06_times_ok m _ _ _ _ (bT (hg.1) hy90)).b, fun hg => (law06_times_ok m _ _ _ _ (bT (hg.1) hy91)).b, fun hg => (law06_times_ok m _ _ _ _ (bT (hg.1) hy92)).b, fun hg => (law06_times_ok m _ _ _ _ (bT (hg.1) hy94)).b, fun hg => (law06_times_ok m _ _ _ _ (bT (hg.1) hy95)).b, fun hg => (law06_times_ok m _ _ _ _ (bT (hg.1) hy96)).b, fun hg => (law06_times_ok m _ _ _ _ (bT (hg.1) hy98)).b, trivial⟩ fun _ wd99 H100 hb => ?_
    clear H88
    replace hS := hS.below hb
    clear hb
    obtain ⟨y101, hy101, hm⟩ := bindE hm
    obtain ⟨y102, hy102, hm⟩ := bindE hm
    obtain ⟨y103, hy103, hm⟩ := bindE hm
    obtain ⟨y104, hy104, hm⟩ := bindE hm
    obtain ⟨x105, hx105, hm⟩ := letE hm
    obtain ⟨y106, hy106, hm⟩ := bindE hm
    obtain ⟨y107, hy107, hm⟩ := bindE hm
    refine s_reg [(.bool y101), (.bool y102), (.bool y103), (.bool y104), (.bool y106), (.bool y107)] [17, 18, 20, 21, 22, 24, 26, 27, 28, 29, 30, 31, 32] [(17, [], .int .i64 y62.1), (18, [], .int .i64 y62.2), (20, [], .int .i64 y65.2), (21, [], .int .i64 y68.1), (22, [], .int .i64 y68.2), (24, [], .int .i64 y71.2), (26, [], .int .i64 y80.2), (27, [], .int .i64 y83.1), (28, [], .int .i64 y83.2), (29, [], .int .i64 y86.1), (30, [], .int .i64 y86.2), (31, [], .bool (cond x97 y98 false)), (32, [], .bool (cond (cond x105 y106 false) y107 false))] [fun wz => RetB Tryd.prog 20 ⟨[.int .i64 1000000000000, .string ⟨⟨[49, 48, 48, 48, 48, 48, 48, 48, 48, 48]⟩⟩]⟩ (.bool y101) wz, fun wz => (y101 = true ∧ True → RetB Tryd.prog 20 ⟨[.int .i64 (-1000000000000), .string ⟨⟨[45, 49, 48, 48, 48, 48, 48, 48, 48, 48, 48]⟩⟩]⟩ (.bool y102) wz), fun wz => ((cond y101 y102 false) = true ∧ True → RetB Tryd.prog 20 ⟨[.int .i64 999, .string ⟨⟨[48, 46, 57, 57, 57]⟩⟩]⟩ (.bool y103) wz), fun wz => ((cond (cond y101 y102 false) y103 false) = true ∧ True → RetB Tryd.prog 20 ⟨[.int .i64 100, .string ⟨⟨[48, 46, 49]⟩⟩]⟩ (.bool y104) wz), fun wz => (x105 = true ∧ True → RetB Tryd.prog 20 ⟨[.int .i64 10010, .string ⟨⟨[49, 48, 46, 48, 49]⟩⟩]⟩ (.bool y106) wz), fun wz => ((cond x105 y106 false) = true ∧ True → RetB Tryd.prog 20 ⟨[.int .i64 1, .string ⟨⟨[48, 46, 48, 48, 49]⟩⟩]⟩ (.bool y107) wz)] H100 (by subst hx105; kernel_rfl) ⟨((law06_writes_ok m _ _ _ hy101).b), fun hg => (law06_writes_ok m _ _ _ (bT (hg.1) hy102)).b, fun hg => (law06_writes_ok m _ _ _ (bT (hg.1) hy103)).b, fun hg => (law06_writes_ok m _ _ _ (bT (hg.1) hy104)).b, fun hg => (law06_writes_ok m _ _ _ (bT (hg.1) hy106)).b, fun hg => (law06_writes_ok m _ _ _ (bT (hg.1) hy107)).b, trivial⟩ fun _ wd108 H109 hb => ?_
    clear H100
    replace hS := hS.below hb
    clear hb
    obtain ⟨x110, hx110, hm⟩ := letE hm
    obtain ⟨x111, hx111, hm⟩ := letE hm
    obtain ⟨x112, hx112, hm⟩ := letE hm
    obtain ⟨x113, hx113, hm⟩ := letE hm
    obtain ⟨x114, hx114, hm⟩ := letE hm
    obtain ⟨x115, hx115, hm⟩ := letE hm
    obtain ⟨y116, hy116, hm⟩ := bindE hm
    refine s_reg [(.bool y116)] [0] [(0, [], .bool (cond x115 y116 false))] [fun wz => (x115 = true ∧ True → RetB Tryd.prog 15 ⟨[]⟩ (.bool y116) wz)] H109 (by subst hx110 hx111 hx112 hx113 hx114 hx115; kernel_rfl) ⟨fun hg => (law06_alive_ok m _ (bT (hg.1) hy116)).b, trivial⟩ fun _ wd117 H118 hb => ?_
    clear H109
    replace hS := hS.below hb
    clear hb
    refine w_ret ?_
    obtain rfl := someE hm
    exact retR1 H118 rfl rfl ⟨_, rfl, rfl, (hS.sel [] rfl)⟩
theorem law06_FixedNames_ok  (m : Nat)  (r : Bool) (hm : law06_FixedNames m = some r) : Ret Tryd.prog 5 ⟨[]⟩ (.bool r) := retP_of (Tryd.call5 _) (fun w h => law06_FixedNames_w F0 m    r hm w h)

end Go.Proofs.YtbealjlgbfpadaaDoor
