/-
  What the Go functions compute, as Lean functions, and that a call returns just that. Printed by a program.
-/
import Derived.Test.YtbealjlgbfpadaaRows
import Derived.Test.YtbealjlgbfpadaaV2
set_option linter.unusedVariables false
namespace Go.Proofs.Ytbealjlgbfpadaa
open Go.V Go.RowKit
def fixed_check_L1 (l : List (Int)) : Nat → Int → Option (Sum (Int) (Unit))
  | 0, _ => none
  | m + 1, v6 =>
    cond (decide (v6 < (ln l))) (
    chk (0 ≤ v6 ∧ v6 < ln l) <|
    lt (cond (decide ((gi l v6) < (-1000000000000))) true (decide (1000000000000 < (gi l v6)))) fun x12 =>
    cond x12 (
    some (.inl 8)) (
    fixed_check_L1 l m (w64 (v6 + 1)))) (
    some (.inr ()))
def fixed_check (l : List (Int)) : Option (Int) :=
  Option.bind (
  fixed_check_L1 l (((ln l : Int) - 0).toNat + 1) 0) fun (z3 : Sum (Int) (Unit)) => sumK z3 fun s_z3 =>
  some 0
theorem fixed_check_w {a_l : Option Addr} {c_l : Nat} (l : List (Int)) (r : Int) (hm : fixed_check l = some r) (w : World) (hs_a_l : Sl (encI .i64) 1 w a_l l) : Calls Try.prog 16 ⟨[.slice a_l l.length c_l]⟩ w (V.Pure (.int .i64 r) w) := by
  rw [fixed_check] at hm
  refine calls_entry Try.func16 rfl Try.ntmps16 rfl fun _ H => ?_
  have hB := Kp.refl [] w
  have hN : ND w.heap.size [] [] w := ND.start (by simp) (by intro b hb; simp at hb)
  refine s_reg [] [0] [(0, [], .slice a_l l.length c_l)] [] H (by kernel_rfl) trivial fun _ w1 H2 hb => ?_
  clear H
  replace hN := hN.mono hb.size
  replace hB := hB.step hb
  clear hb
  obtain ⟨z3, hz, hm_z3⟩ := bindE hm
  refine w_cut (fun a' w' => ∃ s_z3 : Unit, z3 = Sum.inr s_z3 ∧ Fr 18 [] a' ∧ Kp [] w w' ∧ ND w.heap.size [] [] w') ?_ ?_
  · replace hm := hz
    refine s_reg [] [5, 6, 7] [(5, [], .slice a_l l.length c_l), (6, [], .int .i64 (ln l)), (7, [], .int .i64 0)] [] H2 (by kernel_rfl) trivial fun _ w4 H5 hb => ?_
    clear H2
    replace hN := hN.mono hb.size
    replace hB := hB.step hb
    clear hb
    refine w_block ?_
    refine w_loop (fun m a' w' => ∃ (v6 : Int), fixed_check_L1 l m v6 = some _ ∧ Fr 18 [(5, [], .slice a_l l.length c_l), (6, [], .int .i64 (ln l)), (7, [], .int .i64 v6)] a' ∧ Kp [] w w' ∧ ND w.heap.size [] [] w') ⟨_, 0, hm, Fr.keep (ks := [5, 6, 7]) H5 (by kernel_rfl), hB, hN⟩ ?_
    clear hm H5 hB hN
    rintro m _ w19 ⟨v6, hm, H, hB, hN⟩
    cases m with
    | zero => exact noneE hm
    | succ m =>
      rw [fixed_check_L1] at hm
      refine s_reg [] [5, 6, 7, 8] [(5, [], .slice a_l l.length c_l), (6, [], .int .i64 (ln l)), (7, [], .int .i64 v6), (8, [], .bool (decide (v6 < (ln l))))] [] H (by kernel_rfl) trivial fun _ w7 H8 hb => ?_
      clear H
      replace hN := hN.mono hb.size
      replace hB := hB.step hb
      clear hb
      refine w_seq ?_
      refine w_if H8 rfl (fun hc => ?_) (fun hc => ?_)
      · replace hm := bT hc hm
        refine w_skip ?_
        refine w_seq ?_
        refine w_block ?_
        obtain ⟨ho9, hm⟩ := chkE hm
        refine s_reg [(.int .i64 (gi l v6))] [4, 5, 6, 7] [(4, [], .int .i64 (gi l v6)), (5, [], .slice a_l l.length c_l), (6, [], .int .i64 (ln l)), (7, [], .int .i64 v6)] [fun _ => oka a_l ∧ 0 ≤ v6 ∧ v6 < ln l, fun wz => V.at1 ⟨ab a_l, ao a_l + (v6).toNat * 1, none⟩ (.int .i64 (gi l v6)) wz] H8 (by kernel_rfl) ⟨((hs_a_l.kp hB nin0).oki ho9), ((hs_a_l.kp hB nin0).at1 (ho9).1 (ho9).2 0 rfl), trivial⟩ fun _ w10 H11 hb => ?_
        clear H8
        replace hN := hN.mono hb.size
        replace hB := hB.step hb
        clear hb
        obtain ⟨x12, hx12, hm⟩ := letE hm
        refine s_reg [] [5, 6, 7, 16] [(5, [], .slice a_l l.length c_l), (6, [], .int .i64 (ln l)), (7, [], .int .i64 v6), (16, [], .bool x12)] [] H11 (by subst hx12; kernel_rfl) trivial fun _ w13 H14 hb => ?_
        clear H11
        replace hN := hN.mono hb.size
        replace hB := hB.step hb
        clear hb
        refine w_if H14 rfl (fun hc => ?_) (fun hc => ?_)
        · replace hm := bT hc hm
          refine s_reg [] [2] [(2, [], .int .i64 8)] [] H14 (by kernel_rfl) trivial fun _ w15 H16 hb => ?_
          clear H14
          replace hN := hN.mono hb.size
          replace hB := hB.step hb
          clear hb
          refine w_ret ?_
          obtain rfl := someE hm
          have hm := hm_z3
          obtain rfl := someE hm
          exact ret1 H16 rfl rfl ⟨rfl, hB.below⟩
        · replace hm := bF hc hm
          refine w_skip ?_
          refine w_reg [] [5, 6, 7] [(5, [], .slice a_l l.length c_l), (6, [], .int .i64 (ln l)), (7, [], .int .i64 (w64 (v6 + 1)))] [] H14 (by kernel_rfl) trivial fun _ w17 H18 hb => ?_
          clear H14
          replace hN := hN.mono hb.size
          replace hB := hB.step hb
          clear hb
          exact ⟨_, Nat.lt_succ_self _, w64 (v6 + 1), hm, Fr.keep (ks := [5, 6, 7]) H18 (by kernel_rfl), hB, hN⟩
      · replace hm := bF hc hm
        refine w_exit rfl ?_
        obtain rfl := someE hm
        exact ⟨_, rfl, Fr.keep (ks := []) H8 (by kernel_rfl), hB, hN⟩
  · rintro _ w22 ⟨s_z3, hz, H, hB, hN⟩
    subst hz
    replace hm := sumR hm_z3
    refine s_reg [] [2] [(2, [], .int .i64 0)] [] H (by kernel_rfl) trivial fun _ w20 H21 hb => ?_
    clear H
    replace hN := hN.mono hb.size
    replace hB := hB.step hb
    clear hb
    refine w_ret ?_
    obtain rfl := someE hm
    exact ret1 H21 rfl rfl ⟨rfl, hB.below⟩
theorem fixed_check_ok {a_l : Option Addr} {c_l : Nat} (l : List (Int)) (r : Int) (hm : fixed_check l = some r) (w : World) (hs_a_l : Sl (encI .i64) 1 w a_l l) : RetB Try.prog 16 ⟨[.slice a_l l.length c_l]⟩ (.int .i64 r) w := ⟨Try.call16 _, fun w' hb => fixed_check_w l r hm w' (hs_a_l.below hb)⟩

def fixed_hold (n_ : Int) : Int :=
  lt (if n_ < (-1000000000000) then (-1000000000000) else n_) fun x3 =>
  lt (if 1000000000000 < x3 then 1000000000000 else x3) fun x4 =>
  x4
theorem fixed_hold_w  (n_ : Int) (r : Int) (hm : fixed_hold n_ = r) (w : World)  : Calls Try.prog 17 ⟨[.int .i64 n_]⟩ w (V.Pure (.int .i64 r) w) := by
  rw [fixed_hold] at hm
  refine calls_entry Try.func17 rfl Try.ntmps17 rfl fun _ H => ?_
  have hB := Kp.refl [] w
  have hN : ND w.heap.size [] [] w := ND.start (by simp) (by intro b hb; simp at hb)
  refine s_reg [] [0] [(0, [], .int .i64 n_)] [] H (by kernel_rfl) trivial fun _ w1 H2 hb => ?_
  clear H
  replace hN := hN.mono hb.size
  replace hB := hB.step hb
  clear hb
  obtain ⟨x3, hx3, hm⟩ := letE hm
  obtain ⟨x4, hx4, hm⟩ := letE hm
  refine s_reg [] [2] [(2, [], .int .i64 x4)] [] H2 (by subst hx3 hx4; kernel_rfl) trivial fun _ w5 H6 hb => ?_
  clear H2
  replace hN := hN.mono hb.size
  replace hB := hB.step hb
  clear hb
  refine w_ret ?_
  subst hm
  exact ret1 H6 rfl rfl ⟨rfl, hB.below⟩
theorem fixed_hold_ok  (n_ : Int) : Ret Try.prog 17 ⟨[.int .i64 n_]⟩ (.int .i64 (fixed_hold n_)) := ret_of (Try.call17 _) (fixed_hold_w n_ _ rfl)

def fixed_Sum_L1 (l : List (Int)) : Nat → Int → Int → Option (Int)
  | 0, _, _ => none
  | m + 1, v15, v16 =>
    cond (decide (v16 < (ln l))) (
    chk (0 ≤ v16 ∧ v16 < ln l) <|
    fixed_Sum_L1 l m (fixed_hold (w64 (v15 + (gi l v16)))) (w64 (v16 + 1))) (
    some v15)
def fixed_Sum (l : List (Int)) : Option (Int × Int) :=
  Option.bind (fixed_check l) fun y3 =>
  cond (y3 != 0) (
  some (0, y3)) (
  Option.bind (
  fixed_Sum_L1 l (((ln l : Int) - 0).toNat + 1) 0 0) fun (z12 : Int) =>
  some (z12, 0))
theorem fixed_Sum_w {a_l : Option Addr} {c_l : Nat} (l : List (Int)) (r : Int × Int) (hm : fixed_Sum l = some r) (w : World) (hs_a_l : Sl (encI .i64) 1 w a_l l) : Calls Try.prog 7 ⟨[.slice a_l l.length c_l]⟩ w (V.Pure (.tuple ⟨[.int .i64 r.1, .int .i64 r.2]⟩) w) := by
  rw [fixed_Sum] at hm
  refine calls_entry Try.func7 rfl Try.ntmps7 rfl fun _ H => ?_
  have hB := Kp.refl [] w
  have hN : ND w.heap.size [] [] w := ND.start (by simp) (by intro b hb; simp at hb)
  refine s_reg [] [0] [(0, [], .slice a_l l.length c_l)] [] H (by kernel_rfl) trivial fun _ w1 H2 hb => ?_
  clear H
  replace hN := hN.mono hb.size
  replace hB := hB.step hb
  clear hb
  refine w_seq ?_
  obtain ⟨y3, hy3, hm⟩ := bindE hm
  refine s_reg [(.int .i64 y3)] [0, 4] [(0, [], .slice a_l l.length c_l), (4, [], .int .i64 y3)] [fun wz => RetB Try.prog 16 ⟨[.slice a_l l.length c_l]⟩ (.int .i64 y3) wz] H2 (by kernel_rfl) ⟨(fixed_check_ok _ _ hy3 _ (hs_a_l.kp hB nin0)), trivial⟩ fun _ w4 H5 hb => ?_
  clear H2
  replace hN := hN.mono hb.size
  replace hB := hB.step hb
  clear hb
  refine s_reg [] [0, 4, 11] [(0, [], .slice a_l l.length c_l), (4, [], .int .i64 y3), (11, [], .bool (y3 != 0))] [] H5 (by kernel_rfl) trivial fun _ w6 H7 hb => ?_
  clear H5
  replace hN := hN.mono hb.size
  replace hB := hB.step hb
  clear hb
  refine w_if H7 rfl (fun hc => ?_) (fun hc => ?_)
  · replace hm := bT hc hm
    refine s_reg [] [2, 3] [(2, [], .int .i64 0), (3, [], .int .i64 y3)] [] H7 (by kernel_rfl) trivial fun _ w8 H9 hb => ?_
    clear H7
    replace hN := hN.mono hb.size
    replace hB := hB.step hb
    clear hb
    refine w_ret ?_
    obtain rfl := someE hm
    exact ret2 H9 rfl rfl rfl ⟨rfl, hB.below⟩
  · replace hm := bF hc hm
    refine w_skip ?_
    refine s_reg [] [0, 5] [(0, [], .slice a_l l.length c_l), (5, [], .int .i64 0)] [] H7 (by kernel_rfl) trivial fun _ w10 H11 hb => ?_
    clear H7
    replace hN := hN.mono hb.size
    replace hB := hB.step hb
    clear hb
    obtain ⟨z12, hz, hm⟩ := bindE hm
    refine w_cut (fun a' w' => Fr 25 [(5, [], .int .i64 z12)] a' ∧ Kp [] w w' ∧ ND w.heap.size [] [] w') ?_ ?_
    · replace hm := hz
      refine s_reg [] [5, 13, 14, 15] [(5, [], .int .i64 0), (13, [], .slice a_l l.length c_l), (14, [], .int .i64 (ln l)), (15, [], .int .i64 0)] [] H11 (by kernel_rfl) trivial fun _ w13 H14 hb => ?_
      clear H11
      replace hN := hN.mono hb.size
      replace hB := hB.step hb
      clear hb
      refine w_block ?_
      refine w_loop (fun m a' w' => ∃ (v15 : Int) (v16 : Int), fixed_Sum_L1 l m v15 v16 = some _ ∧ Fr 25 [(13, [], .slice a_l l.length c_l), (14, [], .int .i64 (ln l)), (5, [], .int .i64 v15), (15, [], .int .i64 v16)] a' ∧ Kp [] w w' ∧ ND w.heap.size [] [] w') ⟨_, 0, 0, hm, Fr.keep (ks := [13, 14, 5, 15]) H14 (by kernel_rfl), hB, hN⟩ ?_
      clear hm H14 hB hN
      rintro m _ w26 ⟨v15, v16, hm, H, hB, hN⟩
      cases m with
      | zero => exact noneE hm
      | succ m =>
        rw [fixed_Sum_L1] at hm
        refine s_reg [] [5, 13, 14, 15, 16] [(5, [], .int .i64 v15), (13, [], .slice a_l l.length c_l), (14, [], .int .i64 (ln l)), (15, [], .int .i64 v16), (16, [], .bool (decide (v16 < (ln l))))] [] H (by kernel_rfl) trivial fun _ w17 H18 hb => ?_
        clear H
        replace hN := hN.mono hb.size
        replace hB := hB.step hb
        clear hb
        refine w_seq ?_
        refine w_if H18 rfl (fun hc => ?_) (fun hc => ?_)
        · replace hm := bT hc hm
          refine w_skip ?_
          refine w_seq ?_
          refine w_block ?_
          obtain ⟨ho19, hm⟩ := chkE hm
          refine s_reg [(.int .i64 (gi l v16))] [5, 7, 13, 14, 15] [(5, [], .int .i64 v15), (7, [], .int .i64 (gi l v16)), (13, [], .slice a_l l.length c_l), (14, [], .int .i64 (ln l)), (15, [], .int .i64 v16)] [fun _ => oka a_l ∧ 0 ≤ v16 ∧ v16 < ln l, fun wz => V.at1 ⟨ab a_l, ao a_l + (v16).toNat * 1, none⟩ (.int .i64 (gi l v16)) wz] H18 (by kernel_rfl) ⟨((hs_a_l.kp hB nin0).oki ho19), ((hs_a_l.kp hB nin0).at1 (ho19).1 (ho19).2 0 rfl), trivial⟩ fun _ w20 H21 hb => ?_
          clear H18
          replace hN := hN.mono hb.size
          replace hB := hB.step hb
          clear hb
          refine w_reg [(.int .i64 (fixed_hold (w64 (v15 + (gi l v16)))))] [5, 13, 14, 15] [(5, [], .int .i64 (fixed_hold (w64 (v15 + (gi l v16))))), (13, [], .slice a_l l.length c_l), (14, [], .int .i64 (ln l)), (15, [], .int .i64 v16)] [fun wz => RetB Try.prog 17 ⟨[.int .i64 (w64 (v15 + (gi l v16)))]⟩ (.int .i64 (fixed_hold (w64 (v15 + (gi l v16))))) wz] H21 (by kernel_rfl) ⟨(fixed_hold_ok _).b, trivial⟩ fun _ w22 H23 hb => ?_
          clear H21
          replace hN := hN.mono hb.size
          replace hB := hB.step hb
          clear hb
          refine w_reg [] [5, 13, 14, 15] [(5, [], .int .i64 (fixed_hold (w64 (v15 + (gi l v16))))), (13, [], .slice a_l l.length c_l), (14, [], .int .i64 (ln l)), (15, [], .int .i64 (w64 (v16 + 1)))] [] H23 (by kernel_rfl) trivial fun _ w24 H25 hb => ?_
          clear H23
          replace hN := hN.mono hb.size
          replace hB := hB.step hb
          clear hb
          exact ⟨_, Nat.lt_succ_self _, fixed_hold (w64 (v15 + (gi l v16))), w64 (v16 + 1), hm, Fr.keep (ks := [13, 14, 5, 15]) H25 (by kernel_rfl), hB, hN⟩
        · replace hm := bF hc hm
          refine w_exit rfl ?_
          obtain rfl := someE hm
          exact ⟨Fr.keep (ks := [5]) H18 (by kernel_rfl), hB, hN⟩
    · rintro _ w29 ⟨H, hB, hN⟩
      refine s_reg [] [2, 3] [(2, [], .int .i64 z12), (3, [], .int .i64 0)] [] H (by kernel_rfl) trivial fun _ w27 H28 hb => ?_
      clear H
      replace hN := hN.mono hb.size
      replace hB := hB.step hb
      clear hb
      refine w_ret ?_
      obtain rfl := someE hm
      exact ret2 H28 rfl rfl rfl ⟨rfl, hB.below⟩
theorem fixed_Sum_ok {a_l : Option Addr} {c_l : Nat} (l : List (Int)) (r : Int × Int) (hm : fixed_Sum l = some r) (w : World) (hs_a_l : Sl (encI .i64) 1 w a_l l) : RetB Try.prog 7 ⟨[.slice a_l l.length c_l]⟩ (.tuple ⟨[.int .i64 r.1, .int .i64 r.2]⟩) w := ⟨Try.call7 _, fun w' hb => fixed_Sum_w l r hm w' (hs_a_l.below hb)⟩

def fixed_Within (n_ : Int) (least : Int) (most : Int) : Option (Int × Int) :=
  Option.bind (fixed_check [n_, least, most]) fun y9 =>
  cond (y9 != 0) (
  some (0, y9)) (
  cond (decide (most < least)) (
  some (0, 2)) (
  lt (if most < if n_ < least then least else n_ then most else if n_ < least then least else n_) fun x20 =>
  some (x20, 0)))
theorem fixed_Within_w  (n_ : Int) (least : Int) (most : Int) (r : Int × Int) (hm : fixed_Within n_ least most = some r) (w : World)  : Calls Try.prog 11 ⟨[.int .i64 n_, .int .i64 least, .int .i64 most]⟩ w (V.Pure (.tuple ⟨[.int .i64 r.1, .int .i64 r.2]⟩) w) := by
  rw [fixed_Within] at hm
  refine calls_entry Try.func11 rfl Try.ntmps11 rfl fun _ H => ?_
  have hB := Kp.refl [] w
  have hN : ND w.heap.size [] [] w := ND.start (by simp) (by intro b hb; simp at hb)
  refine s_reg [] [0, 1, 2] [(0, [], .int .i64 n_), (1, [], .int .i64 least), (2, [], .int .i64 most)] [] H (by kernel_rfl) trivial fun _ w1 H2 hb => ?_
  clear H
  replace hN := hN.mono hb.size
  replace hB := hB.step hb
  clear hb
  refine w_seq ?_
  refine w_seq ?_
  refine wl_start ?_
  refine wl_batch 0 3 [] [0, 1, 2, 9, 10, 11] [(0, [], .int .i64 n_), (1, [], .int .i64 least), (2, [], .int .i64 most), (9, [], .int .i64 n_), (10, [], .int .i64 least), (11, [], .int .i64 most)] [] H2 (by decide) (by kernel_rfl) trivial fun _ w3 H4 hb => ?_
  clear H2
  replace hN := hN.mono hb.size
  replace hB := hB.step hb
  clear hb
  refine m_buildO (enc := (encI .i64)) (E := 2) (z := 1) (zv := .int .i64 0) (fun _ => rfl) [.int .i64 n_, .int .i64 least, .int .i64 most] ([n_, least, most] : List (Int)) [12, 0, 1, 2] [(0, [], .int .i64 n_), (1, [], .int .i64 least), (2, [], .int .i64 most)] _ H4 rfl rfl rfl (by kernel_rfl) (by kernel_rfl) (by kernel_rfl) (by kernel_rfl) (by kernel_rfl) rfl rfl rfl (fun _ => rfl) fun _ w5 a7 H6 hq ha ho_o8 => ?_
  clear H4
  replace hB := hB.step0 hq
  replace hN : ND w.heap.size [abl a7] [] _ := hN.birth hq.size (abl a7) (by rw [ha]; simp) ho_o8.lt
  clear hq ha
  obtain ⟨y9, hy9, hm⟩ := bindE hm
  refine wl_batch 4 6 [(.int .i64 y9)] [0, 1, 2, 8] [(0, [], .int .i64 n_), (1, [], .int .i64 least), (2, [], .int .i64 most), (8, [], .int .i64 y9)] [fun wz => RetB Try.prog 16 ⟨[.slice a7 3 3]⟩ (.int .i64 y9) wz] H6 (by decide) (by kernel_rfl) ⟨(fixed_check_ok _ _ hy9 _ (Ow.sl (enc := (encI .i64)) (z := 1) (fun _ => rfl) ho_o8)), trivial⟩ fun _ w10 H11 hb => ?_
  clear H6
  replace ho_o8 := ho_o8.below hb
  replace hN := hN.mono hb.size
  replace hB := hB.step hb
  clear hb
  refine wl_end rfl ?_
  clear ho_o8
  replace hN : ND w.heap.size [] [] _ := hN.pick [false]
  refine s_reg [] [0, 1, 2, 8, 15] [(0, [], .int .i64 n_), (1, [], .int .i64 least), (2, [], .int .i64 most), (8, [], .int .i64 y9), (15, [], .bool (y9 != 0))] [] H11 (by kernel_rfl) trivial fun _ w12 H13 hb => ?_
  clear H11
  replace hN := hN.mono hb.size
  replace hB := hB.step hb
  clear hb
  refine w_if H13 rfl (fun hc => ?_) (fun hc => ?_)
  · replace hm := bT hc hm
    refine s_reg [] [6, 7] [(6, [], .int .i64 0), (7, [], .int .i64 y9)] [] H13 (by kernel_rfl) trivial fun _ w14 H15 hb => ?_
    clear H13
    replace hN := hN.mono hb.size
    replace hB := hB.step hb
    clear hb
    refine w_ret ?_
    obtain rfl := someE hm
    exact ret2 H15 rfl rfl rfl ⟨rfl, hB.below⟩
  · replace hm := bF hc hm
    refine w_skip ?_
    refine w_seq ?_
    refine s_reg [] [0, 1, 2, 19] [(0, [], .int .i64 n_), (1, [], .int .i64 least), (2, [], .int .i64 most), (19, [], .bool (decide (most < least)))] [] H13 (by kernel_rfl) trivial fun _ w16 H17 hb => ?_
    clear H13
    replace hN := hN.mono hb.size
    replace hB := hB.step hb
    clear hb
    refine w_if H17 rfl (fun hc => ?_) (fun hc => ?_)
    · replace hm := bT hc hm
      refine s_reg [] [6, 7] [(6, [], .int .i64 0), (7, [], .int .i64 2)] [] H17 (by kernel_rfl) trivial fun _ w18 H19 hb => ?_
      clear H17
      replace hN := hN.mono hb.size
      replace hB := hB.step hb
      clear hb
      refine w_ret ?_
      obtain rfl := someE hm
      exact ret2 H19 rfl rfl rfl ⟨rfl, hB.below⟩
    · replace hm := bF hc hm
      refine w_skip ?_
      obtain ⟨x20, hx20, hm⟩ := letE hm
      refine s_reg [] [6, 7] [(6, [], .int .i64 x20), (7, [], .int .i64 0)] [] H17 (by subst hx20; kernel_rfl) trivial fun _ w21 H22 hb => ?_
      clear H17
      replace hN := hN.mono hb.size
      replace hB := hB.step hb
      clear hb
      refine w_ret ?_
      obtain rfl := someE hm
      exact ret2 H22 rfl rfl rfl ⟨rfl, hB.below⟩
theorem fixed_Within_ok  (n_ : Int) (least : Int) (most : Int) (r : Int × Int) (hm : fixed_Within n_ least most = some r) : Ret Try.prog 11 ⟨[.int .i64 n_, .int .i64 least, .int .i64 most]⟩ (.tuple ⟨[.int .i64 r.1, .int .i64 r.2]⟩) := ret_of (Try.call11 _) (fixed_Within_w n_ least most r hm)

def fixed_Whole (n_ : Int) : Option (Int × Int) :=
  Option.bind (fixed_check [n_]) fun y9 =>
  cond (y9 != 0) (
  some (0, y9)) (
  some (w64 (n_ - (Int.tmod n_ 1000)), 0))
theorem fixed_Whole_w  (n_ : Int) (r : Int × Int) (hm : fixed_Whole n_ = some r) (w : World)  : Calls Try.prog 15 ⟨[.int .i64 n_]⟩ w (V.Pure (.tuple ⟨[.int .i64 r.1, .int .i64 r.2]⟩) w) := by
  rw [fixed_Whole] at hm
  refine calls_entry Try.func15 rfl Try.ntmps15 rfl fun _ H => ?_
  have hB := Kp.refl [] w
  have hN : ND w.heap.size [] [] w := ND.start (by simp) (by intro b hb; simp at hb)
  refine s_reg [] [0] [(0, [], .int .i64 n_)] [] H (by kernel_rfl) trivial fun _ w1 H2 hb => ?_
  clear H
  replace hN := hN.mono hb.size
  replace hB := hB.step hb
  clear hb
  refine w_seq ?_
  refine w_seq ?_
  refine wl_start ?_
  refine wl_batch 0 1 [] [0, 5] [(0, [], .int .i64 n_), (5, [], .int .i64 n_)] [] H2 (by decide) (by kernel_rfl) trivial fun _ w3 H4 hb => ?_
  clear H2
  replace hN := hN.mono hb.size
  replace hB := hB.step hb
  clear hb
  refine m_buildO (enc := (encI .i64)) (E := 2) (z := 1) (zv := .int .i64 0) (fun _ => rfl) [.int .i64 n_] ([n_] : List (Int)) [6, 0] [(0, [], .int .i64 n_)] _ H4 rfl rfl rfl (by kernel_rfl) (by kernel_rfl) (by kernel_rfl) (by kernel_rfl) (by kernel_rfl) rfl rfl rfl (fun _ => rfl) fun _ w5 a7 H6 hq ha ho_o8 => ?_
  clear H4
  replace hB := hB.step0 hq
  replace hN : ND w.heap.size [abl a7] [] _ := hN.birth hq.size (abl a7) (by rw [ha]; simp) ho_o8.lt
  clear hq ha
  obtain ⟨y9, hy9, hm⟩ := bindE hm
  refine wl_batch 2 4 [(.int .i64 y9)] [0, 4] [(0, [], .int .i64 n_), (4, [], .int .i64 y9)] [fun wz => RetB Try.prog 16 ⟨[.slice a7 1 1]⟩ (.int .i64 y9) wz] H6 (by decide) (by kernel_rfl) ⟨(fixed_check_ok _ _ hy9 _ (Ow.sl (enc := (encI .i64)) (z := 1) (fun _ => rfl) ho_o8)), trivial⟩ fun _ w10 H11 hb => ?_
  clear H6
  replace ho_o8 := ho_o8.below hb
  replace hN := hN.mono hb.size
  replace hB := hB.step hb
  clear hb
  refine wl_end rfl ?_
  clear ho_o8
  replace hN : ND w.heap.size [] [] _ := hN.pick [false]
  refine s_reg [] [0, 4, 9] [(0, [], .int .i64 n_), (4, [], .int .i64 y9), (9, [], .bool (y9 != 0))] [] H11 (by kernel_rfl) trivial fun _ w12 H13 hb => ?_
  clear H11
  replace hN := hN.mono hb.size
  replace hB := hB.step hb
  clear hb
  refine w_if H13 rfl (fun hc => ?_) (fun hc => ?_)
  · replace hm := bT hc hm
    refine s_reg [] [2, 3] [(2, [], .int .i64 0), (3, [], .int .i64 y9)] [] H13 (by kernel_rfl) trivial fun _ w14 H15 hb => ?_
    clear H13
    replace hN := hN.mono hb.size
    replace hB := hB.step hb
    clear hb
    refine w_ret ?_
    obtain rfl := someE hm
    exact ret2 H15 rfl rfl rfl ⟨rfl, hB.below⟩
  · replace hm := bF hc hm
    refine w_skip ?_
    refine s_reg [] [2, 3] [(2, [], .int .i64 (w64 (n_ - (Int.tmod n_ 1000)))), (3, [], .int .i64 0)] [fun _ => (1000 : Int) ≠ 0] H13 (by kernel_rfl) ⟨(by show (1000 : Int) ≠ 0; decide), trivial⟩ fun _ w16 H17 hb => ?_
    clear H13
    replace hN := hN.mono hb.size
    replace hB := hB.step hb
    clear hb
    refine w_ret ?_
    obtain rfl := someE hm
    exact ret2 H17 rfl rfl rfl ⟨rfl, hB.below⟩
theorem fixed_Whole_ok  (n_ : Int) (r : Int × Int) (hm : fixed_Whole n_ = some r) : Ret Try.prog 15 ⟨[.int .i64 n_]⟩ (.tuple ⟨[.int .i64 r.1, .int .i64 r.2]⟩) := ret_of (Try.call15 _) (fixed_Whole_w n_ r hm)

def r06_Is (n_ : Int) : Bool :=
  lt (cond (decide ((-1000000000000) ≤ n_)) (decide (n_ ≤ 1000000000000)) false) fun x3 =>
  x3
theorem r06_Is_w  (n_ : Int) (r : Bool) (hm : r06_Is n_ = r) (w : World)  : Calls Try.prog 13 ⟨[.int .i64 n_]⟩ w (V.Pure (.bool r) w) := by
  rw [r06_Is] at hm
  refine calls_entry Try.func13 rfl Try.ntmps13 rfl fun _ H => ?_
  have hB := Kp.refl [] w
  have hN : ND w.heap.size [] [] w := ND.start (by simp) (by intro b hb; simp at hb)
  refine s_reg [] [0] [(0, [], .int .i64 n_)] [] H (by kernel_rfl) trivial fun _ w1 H2 hb => ?_
  clear H
  replace hN := hN.mono hb.size
  replace hB := hB.step hb
  clear hb
  obtain ⟨x3, hx3, hm⟩ := letE hm
  refine s_reg [] [2] [(2, [], .bool x3)] [] H2 (by subst hx3; kernel_rfl) trivial fun _ w4 H5 hb => ?_
  clear H2
  replace hN := hN.mono hb.size
  replace hB := hB.step hb
  clear hb
  refine w_ret ?_
  subst hm
  exact ret1 H5 rfl rfl ⟨rfl, hB.below⟩
theorem r06_Is_ok  (n_ : Int) : Ret Try.prog 13 ⟨[.int .i64 n_]⟩ (.bool (r06_Is n_)) := ret_of (Try.call13 _) (r06_Is_w n_ _ rfl)

def r06_Hold (n_ : Int) : Int :=
  lt (if n_ < 1000000000000 then n_ else 1000000000000) fun x3 =>
  lt (if (-1000000000000) < x3 then x3 else (-1000000000000)) fun x4 =>
  x4
theorem r06_Hold_w  (n_ : Int) (r : Int) (hm : r06_Hold n_ = r) (w : World)  : Calls Try.prog 18 ⟨[.int .i64 n_]⟩ w (V.Pure (.int .i64 r) w) := by
  rw [r06_Hold] at hm
  refine calls_entry Try.func18 rfl Try.ntmps18 rfl fun _ H => ?_
  have hB := Kp.refl [] w
  have hN : ND w.heap.size [] [] w := ND.start (by simp) (by intro b hb; simp at hb)
  refine s_reg [] [0] [(0, [], .int .i64 n_)] [] H (by kernel_rfl) trivial fun _ w1 H2 hb => ?_
  clear H
  replace hN := hN.mono hb.size
  replace hB := hB.step hb
  clear hb
  obtain ⟨x3, hx3, hm⟩ := letE hm
  obtain ⟨x4, hx4, hm⟩ := letE hm
  refine s_reg [] [2] [(2, [], .int .i64 x4)] [] H2 (by subst hx3 hx4; kernel_rfl) trivial fun _ w5 H6 hb => ?_
  clear H2
  replace hN := hN.mono hb.size
  replace hB := hB.step hb
  clear hb
  refine w_ret ?_
  subst hm
  exact ret1 H6 rfl rfl ⟨rfl, hB.below⟩
theorem r06_Hold_ok  (n_ : Int) : Ret Try.prog 18 ⟨[.int .i64 n_]⟩ (.int .i64 (r06_Hold n_)) := ret_of (Try.call18 _) (r06_Hold_w n_ _ rfl)

def r06_Sum_L1 (l : List (Int)) : Nat → Int → Option (Sum (Int × Int) (Unit))
  | 0, _ => none
  | m + 1, v8 =>
    cond (decide (v8 < (ln l))) (
    chk (0 ≤ v8 ∧ v8 < ln l) <|
    cond (!(r06_Is (gi l v8))) (
    some (.inl (0, 8))) (
    r06_Sum_L1 l m (w64 (v8 + 1)))) (
    some (.inr ()))
def r06_Sum_L2 (l : List (Int)) : Nat → Int → Int → Option (Int)
  | 0, _, _ => none
  | m + 1, v22, v23 =>
    cond (decide (v23 < (ln l))) (
    chk (0 ≤ v23 ∧ v23 < ln l) <|
    r06_Sum_L2 l m (r06_Hold (w64 (v22 + (gi l v23)))) (w64 (v23 + 1))) (
    some v22)
def r06_Sum (l : List (Int)) : Option (Int × Int) :=
  Option.bind (
  r06_Sum_L1 l (((ln l : Int) - 0).toNat + 1) 0) fun (z5 : Sum (Int × Int) (Unit)) => sumK z5 fun s_z5 =>
  Option.bind (
  r06_Sum_L2 l (((ln l : Int) - 0).toNat + 1) 0 0) fun (z19 : Int) =>
  some (z19, 0)
theorem r06_Sum_w {a_l : Option Addr} {c_l : Nat} (l : List (Int)) (r : Int × Int) (hm : r06_Sum l = some r) (w : World) (hs_a_l : Sl (encI .i64) 1 w a_l l) : Calls Try.prog 8 ⟨[.slice a_l l.length c_l]⟩ w (V.Pure (.tuple ⟨[.int .i64 r.1, .int .i64 r.2]⟩) w) := by
  rw [r06_Sum] at hm
  refine calls_entry Try.func8 rfl Try.ntmps8 rfl fun _ H => ?_
  have hB := Kp.refl [] w
  have hN : ND w.heap.size [] [] w := ND.start (by simp) (by intro b hb; simp at hb)
  refine s_reg [] [0] [(0, [], .slice a_l l.length c_l)] [] H (by kernel_rfl) trivial fun _ w1 H2 hb => ?_
  clear H
  replace hN := hN.mono hb.size
  replace hB := hB.step hb
  clear hb
  refine s_reg [] [0, 4] [(0, [], .slice a_l l.length c_l), (4, [], .int .i64 0)] [] H2 (by kernel_rfl) trivial fun _ w3 H4 hb => ?_
  clear H2
  replace hN := hN.mono hb.size
  replace hB := hB.step hb
  clear hb
  obtain ⟨z5, hz, hm_z5⟩ := bindE hm
  refine w_cut (fun a' w' => ∃ s_z5 : Unit, z5 = Sum.inr s_z5 ∧ Fr 33 [(0, [], .slice a_l l.length c_l), (4, [], .int .i64 0)] a' ∧ Kp [] w w' ∧ ND w.heap.size [] [] w') ?_ ?_
  · replace hm := hz
    refine s_reg [] [0, 4, 5] [(0, [], .slice a_l l.length c_l), (4, [], .int .i64 0), (5, [], .int .i64 0)] [] H4 (by kernel_rfl) trivial fun _ w6 H7 hb => ?_
    clear H4
    replace hN := hN.mono hb.size
    replace hB := hB.step hb
    clear hb
    refine w_block ?_
    refine w_loop (fun m a' w' => ∃ (v8 : Int), r06_Sum_L1 l m v8 = some _ ∧ Fr 33 [(0, [], .slice a_l l.length c_l), (4, [], .int .i64 0), (5, [], .int .i64 v8)] a' ∧ Kp [] w w' ∧ ND w.heap.size [] [] w') ⟨_, 0, hm, Fr.keep (ks := [0, 4, 5]) H7 (by kernel_rfl), hB, hN⟩ ?_
    clear hm H7 hB hN
    rintro m _ w18 ⟨v8, hm, H, hB, hN⟩
    cases m with
    | zero => exact noneE hm
    | succ m =>
      rw [r06_Sum_L1] at hm
      refine w_seq ?_
      refine s_reg [] [0, 4, 5, 10] [(0, [], .slice a_l l.length c_l), (4, [], .int .i64 0), (5, [], .int .i64 v8), (10, [], .bool (decide (v8 < (ln l))))] [] H (by kernel_rfl) trivial fun _ w9 H10 hb => ?_
      clear H
      replace hN := hN.mono hb.size
      replace hB := hB.step hb
      clear hb
      refine w_if H10 rfl (fun hc => ?_) (fun hc => ?_)
      · replace hm := bT hc hm
        refine w_skip ?_
        refine w_seq ?_
        refine w_block ?_
        obtain ⟨ho11, hm⟩ := chkE hm
        refine s_reg [(.int .i64 (gi l v8)), (.bool (r06_Is (gi l v8)))] [0, 4, 5, 18] [(0, [], .slice a_l l.length c_l), (4, [], .int .i64 0), (5, [], .int .i64 v8), (18, [], .bool (!(r06_Is (gi l v8))))] [fun _ => oka a_l ∧ 0 ≤ v8 ∧ v8 < ln l, fun wz => V.at1 ⟨ab a_l, ao a_l + (v8).toNat * 1, none⟩ (.int .i64 (gi l v8)) wz, fun wz => RetB Try.prog 13 ⟨[.int .i64 (gi l v8)]⟩ (.bool (r06_Is (gi l v8))) wz] H10 (by kernel_rfl) ⟨((hs_a_l.kp hB nin0).oki ho11), ((hs_a_l.kp hB nin0).at1 (ho11).1 (ho11).2 0 rfl), (r06_Is_ok _).b, trivial⟩ fun _ w12 H13 hb => ?_
        clear H10
        replace hN := hN.mono hb.size
        replace hB := hB.step hb
        clear hb
        refine w_if H13 rfl (fun hc => ?_) (fun hc => ?_)
        · replace hm := bT hc hm
          refine s_reg [] [2, 3] [(2, [], .int .i64 0), (3, [], .int .i64 8)] [] H13 (by kernel_rfl) trivial fun _ w14 H15 hb => ?_
          clear H13
          replace hN := hN.mono hb.size
          replace hB := hB.step hb
          clear hb
          refine w_ret ?_
          obtain rfl := someE hm
          have hm := hm_z5
          obtain rfl := someE hm
          exact ret2 H15 rfl rfl rfl ⟨rfl, hB.below⟩
        · replace hm := bF hc hm
          refine w_skip ?_
          refine w_reg [] [0, 4, 5] [(0, [], .slice a_l l.length c_l), (4, [], .int .i64 0), (5, [], .int .i64 (w64 (v8 + 1)))] [] H13 (by kernel_rfl) trivial fun _ w16 H17 hb => ?_
          clear H13
          replace hN := hN.mono hb.size
          replace hB := hB.step hb
          clear hb
          exact ⟨_, Nat.lt_succ_self _, w64 (v8 + 1), hm, Fr.keep (ks := [0, 4, 5]) H17 (by kernel_rfl), hB, hN⟩
      · replace hm := bF hc hm
        refine w_exit rfl ?_
        obtain rfl := someE hm
        exact ⟨_, rfl, Fr.keep (ks := [0, 4]) H10 (by kernel_rfl), hB, hN⟩
  · rintro _ w35 ⟨s_z5, hz, H, hB, hN⟩
    subst hz
    replace hm := sumR hm_z5
    obtain ⟨z19, hz, hm⟩ := bindE hm
    refine w_cut (fun a' w' => Fr 33 [(4, [], .int .i64 z19)] a' ∧ Kp [] w w' ∧ ND w.heap.size [] [] w') ?_ ?_
    · replace hm := hz
      refine s_reg [] [0, 4, 6] [(0, [], .slice a_l l.length c_l), (4, [], .int .i64 0), (6, [], .int .i64 0)] [] H (by kernel_rfl) trivial fun _ w20 H21 hb => ?_
      clear H
      replace hN := hN.mono hb.size
      replace hB := hB.step hb
      clear hb
      refine w_block ?_
      refine w_loop (fun m a' w' => ∃ (v22 : Int) (v23 : Int), r06_Sum_L2 l m v22 v23 = some _ ∧ Fr 33 [(0, [], .slice a_l l.length c_l), (4, [], .int .i64 v22), (6, [], .int .i64 v23)] a' ∧ Kp [] w w' ∧ ND w.heap.size [] [] w') ⟨_, 0, 0, hm, Fr.keep (ks := [0, 4, 6]) H21 (by kernel_rfl), hB, hN⟩ ?_
      clear hm H21 hB hN
      rintro m _ w31 ⟨v22, v23, hm, H, hB, hN⟩
      cases m with
      | zero => exact noneE hm
      | succ m =>
        rw [r06_Sum_L2] at hm
        refine w_seq ?_
        refine s_reg [] [0, 4, 6, 22] [(0, [], .slice a_l l.length c_l), (4, [], .int .i64 v22), (6, [], .int .i64 v23), (22, [], .bool (decide (v23 < (ln l))))] [] H (by kernel_rfl) trivial fun _ w24 H25 hb => ?_
        clear H
        replace hN := hN.mono hb.size
        replace hB := hB.step hb
        clear hb
        refine w_if H25 rfl (fun hc => ?_) (fun hc => ?_)
        · replace hm := bT hc hm
          refine w_skip ?_
          refine w_seq ?_
          refine w_block ?_
          obtain ⟨ho26, hm⟩ := chkE hm
          refine w_reg [(.int .i64 (gi l v23)), (.int .i64 (r06_Hold (w64 (v22 + (gi l v23)))))] [0, 4, 6] [(0, [], .slice a_l l.length c_l), (4, [], .int .i64 (r06_Hold (w64 (v22 + (gi l v23))))), (6, [], .int .i64 v23)] [fun _ => oka a_l ∧ 0 ≤ v23 ∧ v23 < ln l, fun wz => V.at1 ⟨ab a_l, ao a_l + (v23).toNat * 1, none⟩ (.int .i64 (gi l v23)) wz, fun wz => RetB Try.prog 18 ⟨[.int .i64 (w64 (v22 + (gi l v23)))]⟩ (.int .i64 (r06_Hold (w64 (v22 + (gi l v23))))) wz] H25 (by kernel_rfl) ⟨((hs_a_l.kp hB nin0).oki ho26), ((hs_a_l.kp hB nin0).at1 (ho26).1 (ho26).2 0 rfl), (r06_Hold_ok _).b, trivial⟩ fun _ w27 H28 hb => ?_
          clear H25
          replace hN := hN.mono hb.size
          replace hB := hB.step hb
          clear hb
          refine w_reg [] [0, 4, 6] [(0, [], .slice a_l l.length c_l), (4, [], .int .i64 (r06_Hold (w64 (v22 + (gi l v23))))), (6, [], .int .i64 (w64 (v23 + 1)))] [] H28 (by kernel_rfl) trivial fun _ w29 H30 hb => ?_
          clear H28
          replace hN := hN.mono hb.size
          replace hB := hB.step hb
          clear hb
          exact ⟨_, Nat.lt_succ_self _, r06_Hold (w64 (v22 + (gi l v23))), w64 (v23 + 1), hm, Fr.keep (ks := [0, 4, 6]) H30 (by kernel_rfl), hB, hN⟩
        · replace hm := bF hc hm
          refine w_exit rfl ?_
          obtain rfl := someE hm
          exact ⟨Fr.keep (ks := [4]) H25 (by kernel_rfl), hB, hN⟩
    · rintro _ w34 ⟨H, hB, hN⟩
      refine s_reg [] [2, 3] [(2, [], .int .i64 z19), (3, [], .int .i64 0)] [] H (by kernel_rfl) trivial fun _ w32 H33 hb => ?_
      clear H
      replace hN := hN.mono hb.size
      replace hB := hB.step hb
      clear hb
      refine w_ret ?_
      obtain rfl := someE hm
      exact ret2 H33 rfl rfl rfl ⟨rfl, hB.below⟩
theorem r06_Sum_ok {a_l : Option Addr} {c_l : Nat} (l : List (Int)) (r : Int × Int) (hm : r06_Sum l = some r) (w : World) (hs_a_l : Sl (encI .i64) 1 w a_l l) : RetB Try.prog 8 ⟨[.slice a_l l.length c_l]⟩ (.tuple ⟨[.int .i64 r.1, .int .i64 r.2]⟩) w := ⟨Try.call8 _, fun w' hb => r06_Sum_w l r hm w' (hs_a_l.below hb)⟩

def r06_Within (n_ : Int) (least : Int) (greatest : Int) : Int × Int :=
  lt (cond (!(r06_Is n_)) true (!(r06_Is least))) fun x3 =>
  cond (cond x3 true (!(r06_Is greatest))) (
  (0, 8)) (
  cond (decide (greatest < least)) (
  (0, 2)) (
  lt (if least < if n_ < greatest then n_ else greatest then if n_ < greatest then n_ else greatest else least) fun x12 =>
  (x12, 0)))
theorem r06_Within_w  (n_ : Int) (least : Int) (greatest : Int) (r : Int × Int) (hm : r06_Within n_ least greatest = r) (w : World)  : Calls Try.prog 12 ⟨[.int .i64 n_, .int .i64 least, .int .i64 greatest]⟩ w (V.Pure (.tuple ⟨[.int .i64 r.1, .int .i64 r.2]⟩) w) := by
  rw [r06_Within] at hm
  refine calls_entry Try.func12 rfl Try.ntmps12 rfl fun _ H => ?_
  have hB := Kp.refl [] w
  have hN : ND w.heap.size [] [] w := ND.start (by simp) (by intro b hb; simp at hb)
  refine s_reg [] [0, 1, 2] [(0, [], .int .i64 n_), (1, [], .int .i64 least), (2, [], .int .i64 greatest)] [] H (by kernel_rfl) trivial fun _ w1 H2 hb => ?_
  clear H
  replace hN := hN.mono hb.size
  replace hB := hB.step hb
  clear hb
  refine w_seq ?_
  obtain ⟨x3, hx3, hm⟩ := letE hm
  refine s_reg [(.bool (r06_Is n_)), (.bool (r06_Is least)), (.bool (r06_Is greatest))] [0, 1, 2, 20] [(0, [], .int .i64 n_), (1, [], .int .i64 least), (2, [], .int .i64 greatest), (20, [], .bool (cond x3 true (!(r06_Is greatest))))] [fun wz => RetB Try.prog 13 ⟨[.int .i64 n_]⟩ (.bool (r06_Is n_)) wz, fun wz => ((!(r06_Is n_)) = false ∧ True → RetB Try.prog 13 ⟨[.int .i64 least]⟩ (.bool (r06_Is least)) wz), fun wz => (x3 = false ∧ True → RetB Try.prog 13 ⟨[.int .i64 greatest]⟩ (.bool (r06_Is greatest)) wz)] H2 (by subst hx3; kernel_rfl) ⟨(r06_Is_ok _).b, fun _ => (r06_Is_ok _).b, fun _ => (r06_Is_ok _).b, trivial⟩ fun _ w4 H5 hb => ?_
  clear H2
  replace hN := hN.mono hb.size
  replace hB := hB.step hb
  clear hb
  refine w_if H5 rfl (fun hc => ?_) (fun hc => ?_)
  · replace hm := bT hc hm
    refine s_reg [] [6, 7] [(6, [], .int .i64 0), (7, [], .int .i64 8)] [] H5 (by kernel_rfl) trivial fun _ w6 H7 hb => ?_
    clear H5
    replace hN := hN.mono hb.size
    replace hB := hB.step hb
    clear hb
    refine w_ret ?_
    subst hm
    exact ret2 H7 rfl rfl rfl ⟨rfl, hB.below⟩
  · replace hm := bF hc hm
    refine w_skip ?_
    refine w_seq ?_
    refine s_reg [] [0, 1, 2, 23] [(0, [], .int .i64 n_), (1, [], .int .i64 least), (2, [], .int .i64 greatest), (23, [], .bool (decide (greatest < least)))] [] H5 (by kernel_rfl) trivial fun _ w8 H9 hb => ?_
    clear H5
    replace hN := hN.mono hb.size
    replace hB := hB.step hb
    clear hb
    refine w_if H9 rfl (fun hc => ?_) (fun hc => ?_)
    · replace hm := bT hc hm
      refine s_reg [] [6, 7] [(6, [], .int .i64 0), (7, [], .int .i64 2)] [] H9 (by kernel_rfl) trivial fun _ w10 H11 hb => ?_
      clear H9
      replace hN := hN.mono hb.size
      replace hB := hB.step hb
      clear hb
      refine w_ret ?_
      subst hm
      exact ret2 H11 rfl rfl rfl ⟨rfl, hB.below⟩
    · replace hm := bF hc hm
      refine w_skip ?_
      obtain ⟨x12, hx12, hm⟩ := letE hm
      refine s_reg [] [6, 7] [(6, [], .int .i64 x12), (7, [], .int .i64 0)] [] H9 (by subst hx12; kernel_rfl) trivial fun _ w13 H14 hb => ?_
      clear H9
      replace hN := hN.mono hb.size
      replace hB := hB.step hb
      clear hb
      refine w_ret ?_
      subst hm
      exact ret2 H14 rfl rfl rfl ⟨rfl, hB.below⟩
theorem r06_Within_ok  (n_ : Int) (least : Int) (greatest : Int) : Ret Try.prog 12 ⟨[.int .i64 n_, .int .i64 least, .int .i64 greatest]⟩ (.tuple ⟨[.int .i64 ((r06_Within n_ least greatest).1), .int .i64 ((r06_Within n_ least greatest).2)]⟩) := ret_of (Try.call12 _) (r06_Within_w n_ least greatest _ rfl)

def math_bits_Len64 (x : Int) : Option (Int) :=
  Option.bind (
  cond (decide (4294967296 ≤ x)) (
  some (Int.fdiv x (2 ^ 32), 32)) (
  some (x, 0))) fun (z3 : Int × Int) =>
  Option.bind (
  cond (decide (65536 ≤ z3.1)) (
  some (Int.fdiv z3.1 (2 ^ 16), w64 (z3.2 + 16))) (
  some (z3.1, z3.2))) fun (z10 : Int × Int) =>
  Option.bind (
  cond (decide (256 ≤ z10.1)) (
  some (Int.fdiv z10.1 (2 ^ 8), w64 (z10.2 + 8))) (
  some (z10.1, z10.2))) fun (z17 : Int × Int) =>
  chk (0 ≤ (wu8 z17.1) ∧ (wu8 z17.1) < ln [0, 1, 2, 2, 3, 3, 3, 3, 4, 4, 4, 4, 4, 4, 4, 4, 5, 5, 5, 5, 5, 5, 5, 5, 5, 5, 5, 5, 5, 5, 5, 5, 6, 6, 6, 6, 6, 6, 6, 6, 6, 6, 6, 6, 6, 6, 6, 6, 6, 6, 6, 6, 6, 6, 6, 6, 6, 6, 6, 6, 6, 6, 6, 6, 7, 7, 7, 7, 7, 7, 7, 7, 7, 7, 7, 7, 7, 7, 7, 7, 7, 7, 7, 7, 7, 7, 7, 7, 7, 7, 7, 7, 7, 7, 7, 7, 7, 7, 7, 7, 7, 7, 7, 7, 7, 7, 7, 7, 7, 7, 7, 7, 7, 7, 7, 7, 7, 7, 7, 7, 7, 7, 7, 7, 7, 7, 7, 7, 8, 8, 8, 8, 8, 8, 8, 8, 8, 8, 8, 8, 8, 8, 8, 8, 8, 8, 8, 8, 8, 8, 8, 8, 8, 8, 8, 8, 8, 8, 8, 8, 8, 8, 8, 8, 8, 8, 8, 8, 8, 8, 8, 8, 8, 8, 8, 8, 8, 8, 8, 8, 8, 8, 8, 8, 8, 8, 8, 8, 8, 8, 8, 8, 8, 8, 8, 8, 8, 8, 8, 8, 8, 8, 8, 8, 8, 8, 8, 8, 8, 8, 8, 8, 8, 8, 8, 8, 8, 8, 8, 8, 8, 8, 8, 8, 8, 8, 8, 8, 8, 8, 8, 8, 8, 8, 8, 8, 8, 8, 8, 8, 8, 8, 8, 8, 8, 8, 8, 8, 8, 8, 8, 8, 8, 8, 8, 8]) <|
  lt (bat [0, 1, 2, 2, 3, 3, 3, 3, 4, 4, 4, 4, 4, 4, 4, 4, 5, 5, 5, 5, 5, 5, 5, 5, 5, 5, 5, 5, 5, 5, 5, 5, 6, 6, 6, 6, 6, 6, 6, 6, 6, 6, 6, 6, 6, 6, 6, 6, 6, 6, 6, 6, 6, 6, 6, 6, 6, 6, 6, 6, 6, 6, 6, 6, 7, 7, 7, 7, 7, 7, 7, 7, 7, 7, 7, 7, 7, 7, 7, 7, 7, 7, 7, 7, 7, 7, 7, 7, 7, 7, 7, 7, 7, 7, 7, 7, 7, 7, 7, 7, 7, 7, 7, 7, 7, 7, 7, 7, 7, 7, 7, 7, 7, 7, 7, 7, 7, 7, 7, 7, 7, 7, 7, 7, 7, 7, 7, 7, 8, 8, 8, 8, 8, 8, 8, 8, 8, 8, 8, 8, 8, 8, 8, 8, 8, 8, 8, 8, 8, 8, 8, 8, 8, 8, 8, 8, 8, 8, 8, 8, 8, 8, 8, 8, 8, 8, 8, 8, 8, 8, 8, 8, 8, 8, 8, 8, 8, 8, 8, 8, 8, 8, 8, 8, 8, 8, 8, 8, 8, 8, 8, 8, 8, 8, 8, 8, 8, 8, 8, 8, 8, 8, 8, 8, 8, 8, 8, 8, 8, 8, 8, 8, 8, 8, 8, 8, 8, 8, 8, 8, 8, 8, 8, 8, 8, 8, 8, 8, 8, 8, 8, 8, 8, 8, 8, 8, 8, 8, 8, 8, 8, 8, 8, 8, 8, 8, 8, 8, 8, 8, 8, 8, 8, 8, 8, 8] (wu8 z17.1)) fun x25 =>
  some (w64 (z17.2 + (w64 x25)))
theorem math_bits_Len64_w  (x : Int) (r : Int) (hm : math_bits_Len64 x = some r) (w : World)  : Calls Try.prog 27 ⟨[.int .u64 x]⟩ w (V.Pure (.int .i64 r) w) := by
  rw [math_bits_Len64] at hm
  refine calls_entry Try.func27 rfl Try.ntmps27 rfl fun _ H => ?_
  have hB := Kp.refl [] w
  have hN : ND w.heap.size [] [] w := ND.start (by simp) (by intro b hb; simp at hb)
  refine s_reg [] [0, 2] [(0, [], .int .u64 x), (2, [], .int .i64 0)] [] H (by kernel_rfl) trivial fun _ w1 H2 hb => ?_
  clear H
  replace hN := hN.mono hb.size
  replace hB := hB.step hb
  clear hb
  obtain ⟨z3, hz, hm⟩ := bindE hm
  refine w_cut (fun a' w' => Fr 25 [(0, [], .int .u64 z3.1), (2, [], .int .i64 z3.2)] a' ∧ Kp [] w w' ∧ ND w.heap.size [] [] w') ?_ ?_
  · replace hm := hz
    refine s_reg [] [0, 2, 4] [(0, [], .int .u64 x), (2, [], .int .i64 0), (4, [], .bool (decide (4294967296 ≤ x)))] [] H2 (by kernel_rfl) trivial fun _ w4 H5 hb => ?_
    clear H2
    replace hN := hN.mono hb.size
    replace hB := hB.step hb
    clear hb
    refine w_if H5 rfl (fun hc => ?_) (fun hc => ?_)
    · replace hm := bT hc hm
      refine s_reg [] [0] [(0, [], .int .u64 (Int.fdiv x (2 ^ 32)))] [fun _ => (0 : Int) ≤ 32] H5 (by kernel_rfl) ⟨(by show (0 : Int) ≤ 32; decide), trivial⟩ fun _ w6 H7 hb => ?_
      clear H5
      replace hN := hN.mono hb.size
      replace hB := hB.step hb
      clear hb
      refine w_reg [] [0, 2] [(0, [], .int .u64 (Int.fdiv x (2 ^ 32))), (2, [], .int .i64 32)] [] H7 (by kernel_rfl) trivial fun _ w8 H9 hb => ?_
      clear H7
      replace hN := hN.mono hb.size
      replace hB := hB.step hb
      clear hb
      obtain rfl := someE hm
      exact ⟨Fr.keep (ks := [0, 2]) H9 (by kernel_rfl), hB, hN⟩
    · replace hm := bF hc hm
      refine w_skip ?_
      obtain rfl := someE hm
      exact ⟨Fr.keep (ks := [0, 2]) H5 (by kernel_rfl), hB, hN⟩
  · rintro _ w30 ⟨H, hB, hN⟩
    obtain ⟨z10, hz, hm⟩ := bindE hm
    refine w_cut (fun a' w' => Fr 25 [(0, [], .int .u64 z10.1), (2, [], .int .i64 z10.2)] a' ∧ Kp [] w w' ∧ ND w.heap.size [] [] w') ?_ ?_
    · replace hm := hz
      refine s_reg [] [0, 2, 8] [(0, [], .int .u64 z3.1), (2, [], .int .i64 z3.2), (8, [], .bool (decide (65536 ≤ z3.1)))] [] H (by kernel_rfl) trivial fun _ w11 H12 hb => ?_
      clear H
      replace hN := hN.mono hb.size
      replace hB := hB.step hb
      clear hb
      refine w_if H12 rfl (fun hc => ?_) (fun hc => ?_)
      · replace hm := bT hc hm
        refine s_reg [] [0, 2] [(0, [], .int .u64 (Int.fdiv z3.1 (2 ^ 16))), (2, [], .int .i64 z3.2)] [fun _ => (0 : Int) ≤ 16] H12 (by kernel_rfl) ⟨(by show (0 : Int) ≤ 16; decide), trivial⟩ fun _ w13 H14 hb => ?_
        clear H12
        replace hN := hN.mono hb.size
        replace hB := hB.step hb
        clear hb
        refine w_reg [] [0, 2] [(0, [], .int .u64 (Int.fdiv z3.1 (2 ^ 16))), (2, [], .int .i64 (w64 (z3.2 + 16)))] [] H14 (by kernel_rfl) trivial fun _ w15 H16 hb => ?_
        clear H14
        replace hN := hN.mono hb.size
        replace hB := hB.step hb
        clear hb
        obtain rfl := someE hm
        exact ⟨Fr.keep (ks := [0, 2]) H16 (by kernel_rfl), hB, hN⟩
      · replace hm := bF hc hm
        refine w_skip ?_
        obtain rfl := someE hm
        exact ⟨Fr.keep (ks := [0, 2]) H12 (by kernel_rfl), hB, hN⟩
    · rintro _ w29 ⟨H, hB, hN⟩
      obtain ⟨z17, hz, hm⟩ := bindE hm
      refine w_cut (fun a' w' => Fr 25 [(0, [], .int .u64 z17.1), (2, [], .int .i64 z17.2)] a' ∧ Kp [] w w' ∧ ND w.heap.size [] [] w') ?_ ?_
      · replace hm := hz
        refine s_reg [] [0, 2, 14] [(0, [], .int .u64 z10.1), (2, [], .int .i64 z10.2), (14, [], .bool (decide (256 ≤ z10.1)))] [] H (by kernel_rfl) trivial fun _ w18 H19 hb => ?_
        clear H
        replace hN := hN.mono hb.size
        replace hB := hB.step hb
        clear hb
        refine w_if H19 rfl (fun hc => ?_) (fun hc => ?_)
        · replace hm := bT hc hm
          refine s_reg [] [0, 2] [(0, [], .int .u64 (Int.fdiv z10.1 (2 ^ 8))), (2, [], .int .i64 z10.2)] [fun _ => (0 : Int) ≤ 8] H19 (by kernel_rfl) ⟨(by show (0 : Int) ≤ 8; decide), trivial⟩ fun _ w20 H21 hb => ?_
          clear H19
          replace hN := hN.mono hb.size
          replace hB := hB.step hb
          clear hb
          refine w_reg [] [0, 2] [(0, [], .int .u64 (Int.fdiv z10.1 (2 ^ 8))), (2, [], .int .i64 (w64 (z10.2 + 8)))] [] H21 (by kernel_rfl) trivial fun _ w22 H23 hb => ?_
          clear H21
          replace hN := hN.mono hb.size
          replace hB := hB.step hb
          clear hb
          obtain rfl := someE hm
          exact ⟨Fr.keep (ks := [0, 2]) H23 (by kernel_rfl), hB, hN⟩
        · replace hm := bF hc hm
          refine w_skip ?_
          obtain rfl := someE hm
          exact ⟨Fr.keep (ks := [0, 2]) H19 (by kernel_rfl), hB, hN⟩
      · rintro _ w28 ⟨H, hB, hN⟩
        obtain ⟨ho24, hm⟩ := chkE hm
        obtain ⟨x25, hx25, hm⟩ := letE hm
        refine s_reg [] [2] [(2, [], .int .i64 (w64 (z17.2 + (w64 x25))))] [fun _ => 0 ≤ (wu8 z17.1) ∧ (wu8 z17.1) < ln [0, 1, 2, 2, 3, 3, 3, 3, 4, 4, 4, 4, 4, 4, 4, 4, 5, 5, 5, 5, 5, 5, 5, 5, 5, 5, 5, 5, 5, 5, 5, 5, 6, 6, 6, 6, 6, 6, 6, 6, 6, 6, 6, 6, 6, 6, 6, 6, 6, 6, 6, 6, 6, 6, 6, 6, 6, 6, 6, 6, 6, 6, 6, 6, 7, 7, 7, 7, 7, 7, 7, 7, 7, 7, 7, 7, 7, 7, 7, 7, 7, 7, 7, 7, 7, 7, 7, 7, 7, 7, 7, 7, 7, 7, 7, 7, 7, 7, 7, 7, 7, 7, 7, 7, 7, 7, 7, 7, 7, 7, 7, 7, 7, 7, 7, 7, 7, 7, 7, 7, 7, 7, 7, 7, 7, 7, 7, 7, 8, 8, 8, 8, 8, 8, 8, 8, 8, 8, 8, 8, 8, 8, 8, 8, 8, 8, 8, 8, 8, 8, 8, 8, 8, 8, 8, 8, 8, 8, 8, 8, 8, 8, 8, 8, 8, 8, 8, 8, 8, 8, 8, 8, 8, 8, 8, 8, 8, 8, 8, 8, 8, 8, 8, 8, 8, 8, 8, 8, 8, 8, 8, 8, 8, 8, 8, 8, 8, 8, 8, 8, 8, 8, 8, 8, 8, 8, 8, 8, 8, 8, 8, 8, 8, 8, 8, 8, 8, 8, 8, 8, 8, 8, 8, 8, 8, 8, 8, 8, 8, 8, 8, 8, 8, 8, 8, 8, 8, 8, 8, 8, 8, 8, 8, 8, 8, 8, 8, 8, 8, 8, 8, 8, 8, 8, 8, 8]] H (by subst hx25; kernel_rfl) ⟨ho24, trivial⟩ fun _ w26 H27 hb => ?_
        clear H
        replace hN := hN.mono hb.size
        replace hB := hB.step hb
        clear hb
        refine w_ret ?_
        obtain rfl := someE hm
        exact ret1 H27 rfl rfl ⟨rfl, hB.below⟩
theorem math_bits_Len64_ok  (x : Int) (r : Int) (hm : math_bits_Len64 x = some r) : Ret Try.prog 27 ⟨[.int .u64 x]⟩ (.int .i64 r) := ret_of (Try.call27 _) (math_bits_Len64_w x r hm)

def math_bits_LeadingZeros64 (x : Int) : Option (Int) :=
  Option.bind (math_bits_Len64 x) fun y3 =>
  some (w64 (64 - y3))
theorem math_bits_LeadingZeros64_w  (x : Int) (r : Int) (hm : math_bits_LeadingZeros64 x = some r) (w : World)  : Calls Try.prog 24 ⟨[.int .u64 x]⟩ w (V.Pure (.int .i64 r) w) := by
  rw [math_bits_LeadingZeros64] at hm
  refine calls_entry Try.func24 rfl Try.ntmps24 rfl fun _ H => ?_
  have hB := Kp.refl [] w
  have hN : ND w.heap.size [] [] w := ND.start (by simp) (by intro b hb; simp at hb)
  refine s_reg [] [0] [(0, [], .int .u64 x)] [] H (by kernel_rfl) trivial fun _ w1 H2 hb => ?_
  clear H
  replace hN := hN.mono hb.size
  replace hB := hB.step hb
  clear hb
  obtain ⟨y3, hy3, hm⟩ := bindE hm
  refine s_reg [(.int .i64 y3)] [2] [(2, [], .int .i64 (w64 (64 - y3)))] [fun wz => RetB Try.prog 27 ⟨[.int .u64 x]⟩ (.int .i64 y3) wz] H2 (by kernel_rfl) ⟨(math_bits_Len64_ok _ _ hy3).b, trivial⟩ fun _ w4 H5 hb => ?_
  clear H2
  replace hN := hN.mono hb.size
  replace hB := hB.step hb
  clear hb
  refine w_ret ?_
  obtain rfl := someE hm
  exact ret1 H5 rfl rfl ⟨rfl, hB.below⟩
theorem math_bits_LeadingZeros64_ok  (x : Int) (r : Int) (hm : math_bits_LeadingZeros64 x = some r) : Ret Try.prog 24 ⟨[.int .u64 x]⟩ (.int .i64 r) := ret_of (Try.call24 _) (math_bits_LeadingZeros64_w x r hm)

def math_bits_Mul64 (x : Int) (y : Int) : Int × Int :=
  lt (wu64 ((ibit .and .u64 x 4294967295) * (ibit .and .u64 y 4294967295))) fun x11 =>
  lt (wu64 ((Int.fdiv x (2 ^ 32)) * (ibit .and .u64 y 4294967295))) fun x14 =>
  lt (ibit .and .u64 (wu64 (x14 + (Int.fdiv x11 (2 ^ 32)))) 4294967295) fun x17 =>
  lt (Int.fdiv (wu64 (x14 + (Int.fdiv x11 (2 ^ 32)))) (2 ^ 32)) fun x20 =>
  lt (wu64 ((ibit .and .u64 x 4294967295) * (Int.fdiv y (2 ^ 32)))) fun x23 =>
  lt (wu64 ((Int.fdiv x (2 ^ 32)) * (Int.fdiv y (2 ^ 32)))) fun x26 =>
  lt (wu64 ((wu64 (x26 + x20)) + (Int.fdiv (wu64 (x17 + x23)) (2 ^ 32)))) fun x27 =>
  (x27, wu64 (x * y))
theorem math_bits_Mul64_w  (x : Int) (y : Int) (r : Int × Int) (hm : math_bits_Mul64 x y = r) (w : World)  : Calls Try.prog 19 ⟨[.int .u64 x, .int .u64 y]⟩ w (V.Pure (.tuple ⟨[.int .u64 r.1, .int .u64 r.2]⟩) w) := by
  rw [math_bits_Mul64] at hm
  refine calls_entry Try.func19 rfl Try.ntmps19 rfl fun _ H => ?_
  have hB := Kp.refl [] w
  have hN : ND w.heap.size [] [] w := ND.start (by simp) (by intro b hb; simp at hb)
  refine s_reg [] [0, 1] [(0, [], .int .u64 x), (1, [], .int .u64 y)] [] H (by kernel_rfl) trivial fun _ w1 H2 hb => ?_
  clear H
  replace hN := hN.mono hb.size
  replace hB := hB.step hb
  clear hb
  refine s_reg [] [0, 1, 6] [(0, [], .int .u64 x), (1, [], .int .u64 y), (6, [], .int .u64 (ibit .and .u64 x 4294967295))] [] H2 (by kernel_rfl) trivial fun _ w3 H4 hb => ?_
  clear H2
  replace hN := hN.mono hb.size
  replace hB := hB.step hb
  clear hb
  refine s_reg [] [0, 1, 6, 7] [(0, [], .int .u64 x), (1, [], .int .u64 y), (6, [], .int .u64 (ibit .and .u64 x 4294967295)), (7, [], .int .u64 (Int.fdiv x (2 ^ 32)))] [fun _ => (0 : Int) ≤ 32] H4 (by kernel_rfl) ⟨(by show (0 : Int) ≤ 32; decide), trivial⟩ fun _ w5 H6 hb => ?_
  clear H4
  replace hN := hN.mono hb.size
  replace hB := hB.step hb
  clear hb
  refine s_reg [] [0, 1, 6, 7, 8] [(0, [], .int .u64 x), (1, [], .int .u64 y), (6, [], .int .u64 (ibit .and .u64 x 4294967295)), (7, [], .int .u64 (Int.fdiv x (2 ^ 32))), (8, [], .int .u64 (ibit .and .u64 y 4294967295))] [] H6 (by kernel_rfl) trivial fun _ w7 H8 hb => ?_
  clear H6
  replace hN := hN.mono hb.size
  replace hB := hB.step hb
  clear hb
  refine s_reg [] [0, 1, 6, 7, 8, 9] [(0, [], .int .u64 x), (1, [], .int .u64 y), (6, [], .int .u64 (ibit .and .u64 x 4294967295)), (7, [], .int .u64 (Int.fdiv x (2 ^ 32))), (8, [], .int .u64 (ibit .and .u64 y 4294967295)), (9, [], .int .u64 (Int.fdiv y (2 ^ 32)))] [fun _ => (0 : Int) ≤ 32] H8 (by kernel_rfl) ⟨(by show (0 : Int) ≤ 32; decide), trivial⟩ fun _ w9 H10 hb => ?_
  clear H8
  replace hN := hN.mono hb.size
  replace hB := hB.step hb
  clear hb
  obtain ⟨x11, hx11, hm⟩ := letE hm
  refine s_reg [] [0, 1, 6, 7, 8, 9, 10] [(0, [], .int .u64 x), (1, [], .int .u64 y), (6, [], .int .u64 (ibit .and .u64 x 4294967295)), (7, [], .int .u64 (Int.fdiv x (2 ^ 32))), (8, [], .int .u64 (ibit .and .u64 y 4294967295)), (9, [], .int .u64 (Int.fdiv y (2 ^ 32))), (10, [], .int .u64 x11)] [] H10 (by subst hx11; kernel_rfl) trivial fun _ w12 H13 hb => ?_
  clear H10
  replace hN := hN.mono hb.size
  replace hB := hB.step hb
  clear hb
  obtain ⟨x14, hx14, hm⟩ := letE hm
  refine s_reg [] [0, 1, 6, 7, 9, 11] [(0, [], .int .u64 x), (1, [], .int .u64 y), (6, [], .int .u64 (ibit .and .u64 x 4294967295)), (7, [], .int .u64 (Int.fdiv x (2 ^ 32))), (9, [], .int .u64 (Int.fdiv y (2 ^ 32))), (11, [], .int .u64 (wu64 (x14 + (Int.fdiv x11 (2 ^ 32)))))] [fun _ => (0 : Int) ≤ 32] H13 (by subst hx14; kernel_rfl) ⟨(by show (0 : Int) ≤ 32; decide), trivial⟩ fun _ w15 H16 hb => ?_
  clear H13
  replace hN := hN.mono hb.size
  replace hB := hB.step hb
  clear hb
  obtain ⟨x17, hx17, hm⟩ := letE hm
  refine s_reg [] [0, 1, 6, 7, 9, 11, 12] [(0, [], .int .u64 x), (1, [], .int .u64 y), (6, [], .int .u64 (ibit .and .u64 x 4294967295)), (7, [], .int .u64 (Int.fdiv x (2 ^ 32))), (9, [], .int .u64 (Int.fdiv y (2 ^ 32))), (11, [], .int .u64 (wu64 (x14 + (Int.fdiv x11 (2 ^ 32))))), (12, [], .int .u64 x17)] [] H16 (by subst hx17; kernel_rfl) trivial fun _ w18 H19 hb => ?_
  clear H16
  replace hN := hN.mono hb.size
  replace hB := hB.step hb
  clear hb
  obtain ⟨x20, hx20, hm⟩ := letE hm
  refine s_reg [] [0, 1, 6, 7, 9, 12, 13] [(0, [], .int .u64 x), (1, [], .int .u64 y), (6, [], .int .u64 (ibit .and .u64 x 4294967295)), (7, [], .int .u64 (Int.fdiv x (2 ^ 32))), (9, [], .int .u64 (Int.fdiv y (2 ^ 32))), (12, [], .int .u64 x17), (13, [], .int .u64 x20)] [fun _ => (0 : Int) ≤ 32] H19 (by subst hx20; kernel_rfl) ⟨(by show (0 : Int) ≤ 32; decide), trivial⟩ fun _ w21 H22 hb => ?_
  clear H19
  replace hN := hN.mono hb.size
  replace hB := hB.step hb
  clear hb
  obtain ⟨x23, hx23, hm⟩ := letE hm
  refine s_reg [] [0, 1, 7, 9, 12, 13] [(0, [], .int .u64 x), (1, [], .int .u64 y), (7, [], .int .u64 (Int.fdiv x (2 ^ 32))), (9, [], .int .u64 (Int.fdiv y (2 ^ 32))), (12, [], .int .u64 (wu64 (x17 + x23))), (13, [], .int .u64 x20)] [] H22 (by subst hx23; kernel_rfl) trivial fun _ w24 H25 hb => ?_
  clear H22
  replace hN := hN.mono hb.size
  replace hB := hB.step hb
  clear hb
  obtain ⟨x26, hx26, hm⟩ := letE hm
  obtain ⟨x27, hx27, hm⟩ := letE hm
  refine s_reg [] [0, 1, 4] [(0, [], .int .u64 x), (1, [], .int .u64 y), (4, [], .int .u64 x27)] [fun _ => (0 : Int) ≤ 32] H25 (by subst hx26 hx27; kernel_rfl) ⟨(by show (0 : Int) ≤ 32; decide), trivial⟩ fun _ w28 H29 hb => ?_
  clear H25
  replace hN := hN.mono hb.size
  replace hB := hB.step hb
  clear hb
  refine s_reg [] [4, 5] [(4, [], .int .u64 x27), (5, [], .int .u64 (wu64 (x * y)))] [] H29 (by kernel_rfl) trivial fun _ w30 H31 hb => ?_
  clear H29
  replace hN := hN.mono hb.size
  replace hB := hB.step hb
  clear hb
  refine w_ret ?_
  subst hm
  exact ret2 H31 rfl rfl rfl ⟨rfl, hB.below⟩
theorem math_bits_Mul64_ok  (x : Int) (y : Int) : Ret Try.prog 19 ⟨[.int .u64 x, .int .u64 y]⟩ (.tuple ⟨[.int .u64 ((math_bits_Mul64 x y).1), .int .u64 ((math_bits_Mul64 x y).2)]⟩) := ret_of (Try.call19 _) (math_bits_Mul64_w x y _ rfl)

def math_bits_Div64_L1 (x16 : Int) (x28 : Int) : Nat → Int → Int → Option (Int)
  | 0, _, _ => none
  | m + 1, v43, v44 =>
    lt (cond (decide (4294967296 ≤ v43)) true (decide ((wu64 ((wu64 (4294967296 * v44)) + (Int.fdiv x28 (2 ^ 32)))) < (wu64 (v43 * (ibit .and .u64 x16 4294967295)))))) fun x45 =>
    cond x45 (
    lt (decide (4294967296 ≤ (wu64 (v44 + (Int.fdiv x16 (2 ^ 32)))))) fun x52 =>
    cond x52 (
    some (wu64 (v43 - 1))) (
    math_bits_Div64_L1 x16 x28 m (wu64 (v43 - 1)) (wu64 (v44 + (Int.fdiv x16 (2 ^ 32)))))) (
    some v43)
def math_bits_Div64_L2 (x16 : Int) (x28 : Int) : Nat → Int → Int → Option (Int)
  | 0, _, _ => none
  | m + 1, v67, v68 =>
    lt (cond (decide (4294967296 ≤ v68)) true (decide ((wu64 ((wu64 (4294967296 * v67)) + (ibit .and .u64 x28 4294967295))) < (wu64 (v68 * (ibit .and .u64 x16 4294967295)))))) fun x69 =>
    cond x69 (
    lt (decide (4294967296 ≤ (wu64 (v67 + (Int.fdiv x16 (2 ^ 32)))))) fun x76 =>
    cond x76 (
    some (wu64 (v68 - 1))) (
    math_bits_Div64_L2 x16 x28 m (wu64 (v67 + (Int.fdiv x16 (2 ^ 32)))) (wu64 (v68 - 1)))) (
    some v68)
def math_bits_Div64 (hi : Int) (lo : Int) (y : Int) : Option (Int × Int) :=
  cond (y == 0) (
  none) (
  cond (decide (y ≤ hi)) (
  none) (
  cond (hi == 0) (
  chk (y ≠ 0) <|
  some (wu64 (Int.tdiv lo y), Int.tmod lo y)) (
  Option.bind (math_bits_LeadingZeros64 y) fun y12 =>
  chk (0 ≤ (wu64 y12)) <|
  lt (wu64 (y * 2 ^ (Nat.min (wu64 y12).toNat 64))) fun x16 =>
  lt (wu64 (hi * 2 ^ (Nat.min (wu64 y12).toNat 64))) fun x23 =>
  chk (0 ≤ (wu64 (64 - (wu64 y12)))) <|
  lt (Int.fdiv lo (2 ^ (Nat.min (wu64 (64 - (wu64 y12))).toNat 64))) fun x25 =>
  lt (wu64 (lo * 2 ^ (Nat.min (wu64 y12).toNat 64))) fun x28 =>
  chk ((Int.fdiv x16 (2 ^ 32)) ≠ 0) <|
  lt (wu64 (Int.tdiv (ibit .or .u64 x23 x25) (Int.fdiv x16 (2 ^ 32)))) fun x36 =>
  lt (wu64 ((ibit .or .u64 x23 x25) - (wu64 (x36 * (Int.fdiv x16 (2 ^ 32)))))) fun x39 =>
  Option.bind (
  math_bits_Div64_L1 x16 x28 (2) x36 x39) fun (z42 : Int) =>
  lt (wu64 ((ibit .or .u64 x23 x25) * 4294967296)) fun x56 =>
  lt (wu64 ((wu64 (x56 + (Int.fdiv x28 (2 ^ 32)))) - (wu64 (z42 * x16)))) fun x57 =>
  lt (wu64 (Int.tdiv x57 (Int.fdiv x16 (2 ^ 32)))) fun x60 =>
  lt (wu64 (x57 - (wu64 (x60 * (Int.fdiv x16 (2 ^ 32)))))) fun x63 =>
  Option.bind (
  math_bits_Div64_L2 x16 x28 (2) x63 x60) fun (z66 : Int) =>
  lt (wu64 ((wu64 (x57 * 4294967296)) + (ibit .and .u64 x28 4294967295))) fun x80 =>
  lt (Int.fdiv (wu64 (x80 - (wu64 (z66 * x16)))) (2 ^ (Nat.min (wu64 y12).toNat 64))) fun x81 =>
  some (wu64 ((wu64 (z42 * 4294967296)) + z66), x81))))
theorem math_bits_Div64_w  (hi : Int) (lo : Int) (y : Int) (r : Int × Int) (hm : math_bits_Div64 hi lo y = some r) (w : World)  : Calls Try.prog 20 ⟨[.int .u64 hi, .int .u64 lo, .int .u64 y]⟩ w (V.Pure (.tuple ⟨[.int .u64 r.1, .int .u64 r.2]⟩) w) := by
  rw [math_bits_Div64] at hm
  refine calls_entry Try.func20 rfl Try.ntmps20 rfl fun _ H => ?_
  have hB := Kp.refl [] w
  have hN : ND w.heap.size [] [] w := ND.start (by simp) (by intro b hb; simp at hb)
  refine s_reg [] [0, 1, 2] [(0, [], .int .u64 hi), (1, [], .int .u64 lo), (2, [], .int .u64 y)] [] H (by kernel_rfl) trivial fun _ w1 H2 hb => ?_
  clear H
  replace hN := hN.mono hb.size
  replace hB := hB.step hb
  clear hb
  refine w_seq ?_
  refine s_reg [] [0, 1, 2, 20] [(0, [], .int .u64 hi), (1, [], .int .u64 lo), (2, [], .int .u64 y), (20, [], .bool (y == 0))] [] H2 (by kernel_rfl) trivial fun _ w3 H4 hb => ?_
  clear H2
  replace hN := hN.mono hb.size
  replace hB := hB.step hb
  clear hb
  refine w_if H4 rfl (fun hc => ?_) (fun hc => ?_)
  · replace hm := bT hc hm
    exact noneE hm
  · replace hm := bF hc hm
    refine w_skip ?_
    refine w_seq ?_
    refine s_reg [] [0, 1, 2, 24] [(0, [], .int .u64 hi), (1, [], .int .u64 lo), (2, [], .int .u64 y), (24, [], .bool (decide (y ≤ hi)))] [] H4 (by kernel_rfl) trivial fun _ w5 H6 hb => ?_
    clear H4
    replace hN := hN.mono hb.size
    replace hB := hB.step hb
    clear hb
    refine w_if H6 rfl (fun hc => ?_) (fun hc => ?_)
    · replace hm := bT hc hm
      exact noneE hm
    · replace hm := bF hc hm
      refine w_skip ?_
      refine w_seq ?_
      refine s_reg [] [0, 1, 2, 27] [(0, [], .int .u64 hi), (1, [], .int .u64 lo), (2, [], .int .u64 y), (27, [], .bool (hi == 0))] [] H6 (by kernel_rfl) trivial fun _ w7 H8 hb => ?_
      clear H6
      replace hN := hN.mono hb.size
      replace hB := hB.step hb
      clear hb
      refine w_if H8 rfl (fun hc => ?_) (fun hc => ?_)
      · replace hm := bT hc hm
        obtain ⟨ho9, hm⟩ := chkE hm
        refine s_draw [] [6, 7] [(6, [], .int .u64 (wu64 (Int.tdiv lo y))), (7, [], .int .u64 (Int.tmod lo y))] [fun _ => y ≠ 0, fun _ => y ≠ 0] H8 (by kernel_rfl) (by kernel_rfl) (by kernel_rfl) ⟨ho9, ho9, trivial⟩ fun _ w10 H11 hb => ?_
        clear H8
        replace hN := hN.mono hb.size
        replace hB := hB.step hb
        clear hb
        refine w_ret ?_
        obtain rfl := someE hm
        exact ret2 H11 rfl rfl rfl ⟨rfl, hB.below⟩
      · replace hm := bF hc hm
        refine w_skip ?_
        obtain ⟨y12, hy12, hm⟩ := bindE hm
        refine s_reg [(.int .i64 y12)] [0, 1, 2, 8] [(0, [], .int .u64 hi), (1, [], .int .u64 lo), (2, [], .int .u64 y), (8, [], .int .u64 (wu64 y12))] [fun wz => RetB Try.prog 24 ⟨[.int .u64 y]⟩ (.int .i64 y12) wz] H8 (by kernel_rfl) ⟨(math_bits_LeadingZeros64_ok _ _ hy12).b, trivial⟩ fun _ w13 H14 hb => ?_
        clear H8
        replace hN := hN.mono hb.size
        replace hB := hB.step hb
        clear hb
        obtain ⟨ho15, hm⟩ := chkE hm
        obtain ⟨x16, hx16, hm⟩ := letE hm
        refine s_reg [] [0, 1, 2, 8] [(0, [], .int .u64 hi), (1, [], .int .u64 lo), (2, [], .int .u64 x16), (8, [], .int .u64 (wu64 y12))] [fun _ => 0 ≤ (wu64 y12)] H14 (by subst hx16; kernel_rfl) ⟨ho15, trivial⟩ fun _ w17 H18 hb => ?_
        clear H14
        replace hN := hN.mono hb.size
        replace hB := hB.step hb
        clear hb
        refine s_reg [] [0, 1, 2, 8, 9] [(0, [], .int .u64 hi), (1, [], .int .u64 lo), (2, [], .int .u64 x16), (8, [], .int .u64 (wu64 y12)), (9, [], .int .u64 (Int.fdiv x16 (2 ^ 32)))] [fun _ => (0 : Int) ≤ 32] H18 (by kernel_rfl) ⟨(by show (0 : Int) ≤ 32; decide), trivial⟩ fun _ w19 H20 hb => ?_
        clear H18
        replace hN := hN.mono hb.size
        replace hB := hB.step hb
        clear hb
        refine s_reg [] [0, 1, 2, 8, 9, 10] [(0, [], .int .u64 hi), (1, [], .int .u64 lo), (2, [], .int .u64 x16), (8, [], .int .u64 (wu64 y12)), (9, [], .int .u64 (Int.fdiv x16 (2 ^ 32))), (10, [], .int .u64 (ibit .and .u64 x16 4294967295))] [] H20 (by kernel_rfl) trivial fun _ w21 H22 hb => ?_
        clear H20
        replace hN := hN.mono hb.size
        replace hB := hB.step hb
        clear hb
        obtain ⟨x23, hx23, hm⟩ := letE hm
        obtain ⟨ho24, hm⟩ := chkE hm
        obtain ⟨x25, hx25, hm⟩ := letE hm
        refine s_reg [] [1, 2, 8, 9, 10, 11] [(1, [], .int .u64 lo), (2, [], .int .u64 x16), (8, [], .int .u64 (wu64 y12)), (9, [], .int .u64 (Int.fdiv x16 (2 ^ 32))), (10, [], .int .u64 (ibit .and .u64 x16 4294967295)), (11, [], .int .u64 (ibit .or .u64 x23 x25))] [fun _ => 0 ≤ (wu64 y12), fun _ => 0 ≤ (wu64 (64 - (wu64 y12)))] H22 (by subst hx23 hx25; kernel_rfl) ⟨ho15, ho24, trivial⟩ fun _ w26 H27 hb => ?_
        clear H22
        replace hN := hN.mono hb.size
        replace hB := hB.step hb
        clear hb
        obtain ⟨x28, hx28, hm⟩ := letE hm
        refine s_reg [] [2, 8, 9, 10, 11, 12] [(2, [], .int .u64 x16), (8, [], .int .u64 (wu64 y12)), (9, [], .int .u64 (Int.fdiv x16 (2 ^ 32))), (10, [], .int .u64 (ibit .and .u64 x16 4294967295)), (11, [], .int .u64 (ibit .or .u64 x23 x25)), (12, [], .int .u64 x28)] [fun _ => 0 ≤ (wu64 y12)] H27 (by subst hx28; kernel_rfl) ⟨ho15, trivial⟩ fun _ w29 H30 hb => ?_
        clear H27
        replace hN := hN.mono hb.size
        replace hB := hB.step hb
        clear hb
        refine s_reg [] [2, 8, 9, 10, 11, 12, 13] [(2, [], .int .u64 x16), (8, [], .int .u64 (wu64 y12)), (9, [], .int .u64 (Int.fdiv x16 (2 ^ 32))), (10, [], .int .u64 (ibit .and .u64 x16 4294967295)), (11, [], .int .u64 (ibit .or .u64 x23 x25)), (12, [], .int .u64 x28), (13, [], .int .u64 (Int.fdiv x28 (2 ^ 32)))] [fun _ => (0 : Int) ≤ 32] H30 (by kernel_rfl) ⟨(by show (0 : Int) ≤ 32; decide), trivial⟩ fun _ w31 H32 hb => ?_
        clear H30
        replace hN := hN.mono hb.size
        replace hB := hB.step hb
        clear hb
        refine s_reg [] [2, 8, 9, 10, 11, 13, 14] [(2, [], .int .u64 x16), (8, [], .int .u64 (wu64 y12)), (9, [], .int .u64 (Int.fdiv x16 (2 ^ 32))), (10, [], .int .u64 (ibit .and .u64 x16 4294967295)), (11, [], .int .u64 (ibit .or .u64 x23 x25)), (13, [], .int .u64 (Int.fdiv x28 (2 ^ 32))), (14, [], .int .u64 (ibit .and .u64 x28 4294967295))] [] H32 (by kernel_rfl) trivial fun _ w33 H34 hb => ?_
        clear H32
        replace hN := hN.mono hb.size
        replace hB := hB.step hb
        clear hb
        obtain ⟨ho35, hm⟩ := chkE hm
        obtain ⟨x36, hx36, hm⟩ := letE hm
        refine s_reg [] [2, 8, 9, 10, 11, 13, 14, 15] [(2, [], .int .u64 x16), (8, [], .int .u64 (wu64 y12)), (9, [], .int .u64 (Int.fdiv x16 (2 ^ 32))), (10, [], .int .u64 (ibit .and .u64 x16 4294967295)), (11, [], .int .u64 (ibit .or .u64 x23 x25)), (13, [], .int .u64 (Int.fdiv x28 (2 ^ 32))), (14, [], .int .u64 (ibit .and .u64 x28 4294967295)), (15, [], .int .u64 x36)] [fun _ => (Int.fdiv x16 (2 ^ 32)) ≠ 0] H34 (by subst hx36; kernel_rfl) ⟨ho35, trivial⟩ fun _ w37 H38 hb => ?_
        clear H34
        replace hN := hN.mono hb.size
        replace hB := hB.step hb
        clear hb
        obtain ⟨x39, hx39, hm⟩ := letE hm
        refine s_reg [] [2, 8, 9, 10, 11, 13, 14, 15, 16] [(2, [], .int .u64 x16), (8, [], .int .u64 (wu64 y12)), (9, [], .int .u64 (Int.fdiv x16 (2 ^ 32))), (10, [], .int .u64 (ibit .and .u64 x16 4294967295)), (11, [], .int .u64 (ibit .or .u64 x23 x25)), (13, [], .int .u64 (Int.fdiv x28 (2 ^ 32))), (14, [], .int .u64 (ibit .and .u64 x28 4294967295)), (15, [], .int .u64 x36), (16, [], .int .u64 x39)] [] H38 (by subst hx39; kernel_rfl) trivial fun _ w40 H41 hb => ?_
        clear H38
        replace hN := hN.mono hb.size
        replace hB := hB.step hb
        clear hb
        obtain ⟨z42, hz, hm⟩ := bindE hm
        refine w_cut (fun a' w' => Fr 135 [(2, [], .int .u64 x16), (8, [], .int .u64 (wu64 y12)), (9, [], .int .u64 (Int.fdiv x16 (2 ^ 32))), (10, [], .int .u64 (ibit .and .u64 x16 4294967295)), (11, [], .int .u64 (ibit .or .u64 x23 x25)), (13, [], .int .u64 (Int.fdiv x28 (2 ^ 32))), (14, [], .int .u64 (ibit .and .u64 x28 4294967295)), (15, [], .int .u64 z42)] a' ∧ Kp [] w w' ∧ ND w.heap.size [] [] w') ?_ ?_
        · replace hm := hz
          refine w_block ?_
          refine w_loop (fun m a' w' => ∃ (v43 : Int) (v44 : Int), math_bits_Div64_L1 x16 x28 m v43 v44 = some _ ∧ Fr 135 [(2, [], .int .u64 x16), (8, [], .int .u64 (wu64 y12)), (9, [], .int .u64 (Int.fdiv x16 (2 ^ 32))), (10, [], .int .u64 (ibit .and .u64 x16 4294967295)), (11, [], .int .u64 (ibit .or .u64 x23 x25)), (13, [], .int .u64 (Int.fdiv x28 (2 ^ 32))), (14, [], .int .u64 (ibit .and .u64 x28 4294967295)), (15, [], .int .u64 v43), (16, [], .int .u64 v44)] a' ∧ Kp [] w w' ∧ ND w.heap.size [] [] w') ⟨_, x36, x39, hm, Fr.keep (ks := [2, 8, 9, 10, 11, 13, 14, 15, 16]) H41 (by kernel_rfl), hB, hN⟩ ?_
          clear hm H41 hB hN
          rintro m _ w55 ⟨v43, v44, hm, H, hB, hN⟩
          cases m with
          | zero => exact noneE hm
          | succ m =>
            rw [math_bits_Div64_L1] at hm
            refine w_seq ?_
            obtain ⟨x45, hx45, hm⟩ := letE hm
            refine s_reg [] [2, 8, 9, 10, 11, 13, 14, 15, 16, 78] [(2, [], .int .u64 x16), (8, [], .int .u64 (wu64 y12)), (9, [], .int .u64 (Int.fdiv x16 (2 ^ 32))), (10, [], .int .u64 (ibit .and .u64 x16 4294967295)), (11, [], .int .u64 (ibit .or .u64 x23 x25)), (13, [], .int .u64 (Int.fdiv x28 (2 ^ 32))), (14, [], .int .u64 (ibit .and .u64 x28 4294967295)), (15, [], .int .u64 v43), (16, [], .int .u64 v44), (78, [], .bool x45)] [] H (by subst hx45; kernel_rfl) trivial fun _ w46 H47 hb => ?_
            clear H
            replace hN := hN.mono hb.size
            replace hB := hB.step hb
            clear hb
            refine w_if H47 rfl (fun hc => ?_) (fun hc => ?_)
            · replace hm := bT hc hm
              refine w_skip ?_
              refine w_block ?_
              refine s_reg [] [2, 8, 9, 10, 11, 13, 14, 15, 16] [(2, [], .int .u64 x16), (8, [], .int .u64 (wu64 y12)), (9, [], .int .u64 (Int.fdiv x16 (2 ^ 32))), (10, [], .int .u64 (ibit .and .u64 x16 4294967295)), (11, [], .int .u64 (ibit .or .u64 x23 x25)), (13, [], .int .u64 (Int.fdiv x28 (2 ^ 32))), (14, [], .int .u64 (ibit .and .u64 x28 4294967295)), (15, [], .int .u64 (wu64 (v43 - 1))), (16, [], .int .u64 v44)] [] H47 (by kernel_rfl) trivial fun _ w48 H49 hb => ?_
              clear H47
              replace hN := hN.mono hb.size
              replace hB := hB.step hb
              clear hb
              refine s_reg [] [2, 8, 9, 10, 11, 13, 14, 15, 16] [(2, [], .int .u64 x16), (8, [], .int .u64 (wu64 y12)), (9, [], .int .u64 (Int.fdiv x16 (2 ^ 32))), (10, [], .int .u64 (ibit .and .u64 x16 4294967295)), (11, [], .int .u64 (ibit .or .u64 x23 x25)), (13, [], .int .u64 (Int.fdiv x28 (2 ^ 32))), (14, [], .int .u64 (ibit .and .u64 x28 4294967295)), (15, [], .int .u64 (wu64 (v43 - 1))), (16, [], .int .u64 (wu64 (v44 + (Int.fdiv x16 (2 ^ 32)))))] [] H49 (by kernel_rfl) trivial fun _ w50 H51 hb => ?_
              clear H49
              replace hN := hN.mono hb.size
              replace hB := hB.step hb
              clear hb
              obtain ⟨x52, hx52, hm⟩ := letE hm
              refine s_reg [] [2, 8, 9, 10, 11, 13, 14, 15, 16, 85] [(2, [], .int .u64 x16), (8, [], .int .u64 (wu64 y12)), (9, [], .int .u64 (Int.fdiv x16 (2 ^ 32))), (10, [], .int .u64 (ibit .and .u64 x16 4294967295)), (11, [], .int .u64 (ibit .or .u64 x23 x25)), (13, [], .int .u64 (Int.fdiv x28 (2 ^ 32))), (14, [], .int .u64 (ibit .and .u64 x28 4294967295)), (15, [], .int .u64 (wu64 (v43 - 1))), (16, [], .int .u64 (wu64 (v44 + (Int.fdiv x16 (2 ^ 32))))), (85, [], .bool x52)] [] H51 (by subst hx52; kernel_rfl) trivial fun _ w53 H54 hb => ?_
              clear H51
              replace hN := hN.mono hb.size
              replace hB := hB.step hb
              clear hb
              refine w_if H54 rfl (fun hc => ?_) (fun hc => ?_)
              · replace hm := bT hc hm
                refine w_exit rfl ?_
                obtain rfl := someE hm
                exact ⟨Fr.keep (ks := [2, 8, 9, 10, 11, 13, 14, 15]) H54 (by kernel_rfl), hB, hN⟩
              · replace hm := bF hc hm
                refine w_skip ?_
                exact ⟨_, Nat.lt_succ_self _, wu64 (v43 - 1), wu64 (v44 + (Int.fdiv x16 (2 ^ 32))), hm, Fr.keep (ks := [2, 8, 9, 10, 11, 13, 14, 15, 16]) H54 (by kernel_rfl), hB, hN⟩
            · replace hm := bF hc hm
              refine w_exit rfl ?_
              obtain rfl := someE hm
              exact ⟨Fr.keep (ks := [2, 8, 9, 10, 11, 13, 14, 15]) H47 (by kernel_rfl), hB, hN⟩
        · rintro _ w85 ⟨H, hB, hN⟩
          obtain ⟨x56, hx56, hm⟩ := letE hm
          obtain ⟨x57, hx57, hm⟩ := letE hm
          refine s_reg [] [2, 8, 9, 10, 14, 15, 17] [(2, [], .int .u64 x16), (8, [], .int .u64 (wu64 y12)), (9, [], .int .u64 (Int.fdiv x16 (2 ^ 32))), (10, [], .int .u64 (ibit .and .u64 x16 4294967295)), (14, [], .int .u64 (ibit .and .u64 x28 4294967295)), (15, [], .int .u64 z42), (17, [], .int .u64 x57)] [] H (by subst hx56 hx57; kernel_rfl) trivial fun _ w58 H59 hb => ?_
          clear H
          replace hN := hN.mono hb.size
          replace hB := hB.step hb
          clear hb
          obtain ⟨x60, hx60, hm⟩ := letE hm
          refine s_reg [] [2, 8, 9, 10, 14, 15, 17, 18] [(2, [], .int .u64 x16), (8, [], .int .u64 (wu64 y12)), (9, [], .int .u64 (Int.fdiv x16 (2 ^ 32))), (10, [], .int .u64 (ibit .and .u64 x16 4294967295)), (14, [], .int .u64 (ibit .and .u64 x28 4294967295)), (15, [], .int .u64 z42), (17, [], .int .u64 x57), (18, [], .int .u64 x60)] [fun _ => (Int.fdiv x16 (2 ^ 32)) ≠ 0] H59 (by subst hx60; kernel_rfl) ⟨ho35, trivial⟩ fun _ w61 H62 hb => ?_
          clear H59
          replace hN := hN.mono hb.size
          replace hB := hB.step hb
          clear hb
          obtain ⟨x63, hx63, hm⟩ := letE hm
          refine s_reg [] [2, 8, 9, 10, 14, 15, 16, 17, 18] [(2, [], .int .u64 x16), (8, [], .int .u64 (wu64 y12)), (9, [], .int .u64 (Int.fdiv x16 (2 ^ 32))), (10, [], .int .u64 (ibit .and .u64 x16 4294967295)), (14, [], .int .u64 (ibit .and .u64 x28 4294967295)), (15, [], .int .u64 z42), (16, [], .int .u64 x63), (17, [], .int .u64 x57), (18, [], .int .u64 x60)] [] H62 (by subst hx63; kernel_rfl) trivial fun _ w64 H65 hb => ?_
          clear H62
          replace hN := hN.mono hb.size
          replace hB := hB.step hb
          clear hb
          obtain ⟨z66, hz, hm⟩ := bindE hm
          refine w_cut (fun a' w' => Fr 135 [(2, [], .int .u64 x16), (8, [], .int .u64 (wu64 y12)), (14, [], .int .u64 (ibit .and .u64 x28 4294967295)), (15, [], .int .u64 z42), (17, [], .int .u64 x57), (18, [], .int .u64 z66)] a' ∧ Kp [] w w' ∧ ND w.heap.size [] [] w') ?_ ?_
          · replace hm := hz
            refine w_block ?_
            refine w_loop (fun m a' w' => ∃ (v67 : Int) (v68 : Int), math_bits_Div64_L2 x16 x28 m v67 v68 = some _ ∧ Fr 135 [(2, [], .int .u64 x16), (8, [], .int .u64 (wu64 y12)), (9, [], .int .u64 (Int.fdiv x16 (2 ^ 32))), (10, [], .int .u64 (ibit .and .u64 x16 4294967295)), (14, [], .int .u64 (ibit .and .u64 x28 4294967295)), (15, [], .int .u64 z42), (17, [], .int .u64 x57), (16, [], .int .u64 v67), (18, [], .int .u64 v68)] a' ∧ Kp [] w w' ∧ ND w.heap.size [] [] w') ⟨_, x63, x60, hm, Fr.keep (ks := [2, 8, 9, 10, 14, 15, 17, 16, 18]) H65 (by kernel_rfl), hB, hN⟩ ?_
            clear hm H65 hB hN
            rintro m _ w79 ⟨v67, v68, hm, H, hB, hN⟩
            cases m with
            | zero => exact noneE hm
            | succ m =>
              rw [math_bits_Div64_L2] at hm
              refine w_seq ?_
              obtain ⟨x69, hx69, hm⟩ := letE hm
              refine s_reg [] [2, 8, 9, 10, 14, 15, 16, 17, 18, 113] [(2, [], .int .u64 x16), (8, [], .int .u64 (wu64 y12)), (9, [], .int .u64 (Int.fdiv x16 (2 ^ 32))), (10, [], .int .u64 (ibit .and .u64 x16 4294967295)), (14, [], .int .u64 (ibit .and .u64 x28 4294967295)), (15, [], .int .u64 z42), (16, [], .int .u64 v67), (17, [], .int .u64 x57), (18, [], .int .u64 v68), (113, [], .bool x69)] [] H (by subst hx69; kernel_rfl) trivial fun _ w70 H71 hb => ?_
              clear H
              replace hN := hN.mono hb.size
              replace hB := hB.step hb
              clear hb
              refine w_if H71 rfl (fun hc => ?_) (fun hc => ?_)
              · replace hm := bT hc hm
                refine w_skip ?_
                refine w_block ?_
                refine s_reg [] [2, 8, 9, 10, 14, 15, 16, 17, 18] [(2, [], .int .u64 x16), (8, [], .int .u64 (wu64 y12)), (9, [], .int .u64 (Int.fdiv x16 (2 ^ 32))), (10, [], .int .u64 (ibit .and .u64 x16 4294967295)), (14, [], .int .u64 (ibit .and .u64 x28 4294967295)), (15, [], .int .u64 z42), (16, [], .int .u64 v67), (17, [], .int .u64 x57), (18, [], .int .u64 (wu64 (v68 - 1)))] [] H71 (by kernel_rfl) trivial fun _ w72 H73 hb => ?_
                clear H71
                replace hN := hN.mono hb.size
                replace hB := hB.step hb
                clear hb
                refine s_reg [] [2, 8, 9, 10, 14, 15, 16, 17, 18] [(2, [], .int .u64 x16), (8, [], .int .u64 (wu64 y12)), (9, [], .int .u64 (Int.fdiv x16 (2 ^ 32))), (10, [], .int .u64 (ibit .and .u64 x16 4294967295)), (14, [], .int .u64 (ibit .and .u64 x28 4294967295)), (15, [], .int .u64 z42), (16, [], .int .u64 (wu64 (v67 + (Int.fdiv x16 (2 ^ 32))))), (17, [], .int .u64 x57), (18, [], .int .u64 (wu64 (v68 - 1)))] [] H73 (by kernel_rfl) trivial fun _ w74 H75 hb => ?_
                clear H73
                replace hN := hN.mono hb.size
                replace hB := hB.step hb
                clear hb
                obtain ⟨x76, hx76, hm⟩ := letE hm
                refine s_reg [] [2, 8, 9, 10, 14, 15, 16, 17, 18, 120] [(2, [], .int .u64 x16), (8, [], .int .u64 (wu64 y12)), (9, [], .int .u64 (Int.fdiv x16 (2 ^ 32))), (10, [], .int .u64 (ibit .and .u64 x16 4294967295)), (14, [], .int .u64 (ibit .and .u64 x28 4294967295)), (15, [], .int .u64 z42), (16, [], .int .u64 (wu64 (v67 + (Int.fdiv x16 (2 ^ 32))))), (17, [], .int .u64 x57), (18, [], .int .u64 (wu64 (v68 - 1))), (120, [], .bool x76)] [] H75 (by subst hx76; kernel_rfl) trivial fun _ w77 H78 hb => ?_
                clear H75
                replace hN := hN.mono hb.size
                replace hB := hB.step hb
                clear hb
                refine w_if H78 rfl (fun hc => ?_) (fun hc => ?_)
                · replace hm := bT hc hm
                  refine w_exit rfl ?_
                  obtain rfl := someE hm
                  exact ⟨Fr.keep (ks := [2, 8, 14, 15, 17, 18]) H78 (by kernel_rfl), hB, hN⟩
                · replace hm := bF hc hm
                  refine w_skip ?_
                  exact ⟨_, Nat.lt_succ_self _, wu64 (v67 + (Int.fdiv x16 (2 ^ 32))), wu64 (v68 - 1), hm, Fr.keep (ks := [2, 8, 9, 10, 14, 15, 17, 16, 18]) H78 (by kernel_rfl), hB, hN⟩
              · replace hm := bF hc hm
                refine w_exit rfl ?_
                obtain rfl := someE hm
                exact ⟨Fr.keep (ks := [2, 8, 14, 15, 17, 18]) H71 (by kernel_rfl), hB, hN⟩
          · rintro _ w84 ⟨H, hB, hN⟩
            obtain ⟨x80, hx80, hm⟩ := letE hm
            obtain ⟨x81, hx81, hm⟩ := letE hm
            refine s_reg [] [6, 7] [(6, [], .int .u64 (wu64 ((wu64 (z42 * 4294967296)) + z66))), (7, [], .int .u64 x81)] [fun _ => 0 ≤ (wu64 y12)] H (by subst hx80 hx81; kernel_rfl) ⟨ho15, trivial⟩ fun _ w82 H83 hb => ?_
            clear H
            replace hN := hN.mono hb.size
            replace hB := hB.step hb
            clear hb
            refine w_ret ?_
            obtain rfl := someE hm
            exact ret2 H83 rfl rfl rfl ⟨rfl, hB.below⟩
theorem math_bits_Div64_ok  (hi : Int) (lo : Int) (y : Int) (r : Int × Int) (hm : math_bits_Div64 hi lo y = some r) : Ret Try.prog 20 ⟨[.int .u64 hi, .int .u64 lo, .int .u64 y]⟩ (.tuple ⟨[.int .u64 r.1, .int .u64 r.2]⟩) := ret_of (Try.call20 _) (math_bits_Div64_w hi lo y r hm)

def fixed_Mul (a_ : Int) (b : Int) : Option (Int × Int) :=
  Option.bind (fixed_check [a_, b]) fun y9 =>
  cond (y9 != 0) (
  some (0, y9)) (
  lt (if a_ < w64 (0 - a_) then w64 (0 - a_) else a_) fun x16 =>
  lt (if b < w64 (0 - b) then w64 (0 - b) else b) fun x17 =>
  lt (math_bits_Mul64 (wu64 x16) (wu64 x17)) fun y18 =>
  Option.bind (
  cond (decide (y18.1 < 1000)) (
  Option.bind (math_bits_Div64 y18.1 y18.2 1000) fun y26 =>
  cond (decide (y26.1 < 1000000000000)) (
  some (w64 y26.1)) (
  some 1000000000000)) (
  some 1000000000000)) fun (z23 : Int) =>
  Option.bind (
  cond (!((decide (a_ < 0)) == (decide (b < 0)))) (
  some (w64 (0 - z23))) (
  some z23)) fun (z33 : Int) =>
  some (z33, 0))
theorem fixed_Mul_w  (a_ : Int) (b : Int) (r : Int × Int) (hm : fixed_Mul a_ b = some r) (w : World)  : Calls Try.prog 9 ⟨[.int .i64 a_, .int .i64 b]⟩ w (V.Pure (.tuple ⟨[.int .i64 r.1, .int .i64 r.2]⟩) w) := by
  rw [fixed_Mul] at hm
  refine calls_entry Try.func9 rfl Try.ntmps9 rfl fun _ H => ?_
  have hB := Kp.refl [] w
  have hN : ND w.heap.size [] [] w := ND.start (by simp) (by intro b hb; simp at hb)
  refine s_reg [] [0, 1] [(0, [], .int .i64 a_), (1, [], .int .i64 b)] [] H (by kernel_rfl) trivial fun _ w1 H2 hb => ?_
  clear H
  replace hN := hN.mono hb.size
  replace hB := hB.step hb
  clear hb
  refine w_seq ?_
  refine w_seq ?_
  refine wl_start ?_
  refine wl_batch 0 2 [] [0, 1, 12, 13] [(0, [], .int .i64 a_), (1, [], .int .i64 b), (12, [], .int .i64 a_), (13, [], .int .i64 b)] [] H2 (by decide) (by kernel_rfl) trivial fun _ w3 H4 hb => ?_
  clear H2
  replace hN := hN.mono hb.size
  replace hB := hB.step hb
  clear hb
  refine m_buildO (enc := (encI .i64)) (E := 2) (z := 1) (zv := .int .i64 0) (fun _ => rfl) [.int .i64 a_, .int .i64 b] ([a_, b] : List (Int)) [14, 0, 1] [(0, [], .int .i64 a_), (1, [], .int .i64 b)] _ H4 rfl rfl rfl (by kernel_rfl) (by kernel_rfl) (by kernel_rfl) (by kernel_rfl) (by kernel_rfl) rfl rfl rfl (fun _ => rfl) fun _ w5 a7 H6 hq ha ho_o8 => ?_
  clear H4
  replace hB := hB.step0 hq
  replace hN : ND w.heap.size [abl a7] [] _ := hN.birth hq.size (abl a7) (by rw [ha]; simp) ho_o8.lt
  clear hq ha
  obtain ⟨y9, hy9, hm⟩ := bindE hm
  refine wl_batch 3 5 [(.int .i64 y9)] [0, 1, 6] [(0, [], .int .i64 a_), (1, [], .int .i64 b), (6, [], .int .i64 y9)] [fun wz => RetB Try.prog 16 ⟨[.slice a7 2 2]⟩ (.int .i64 y9) wz] H6 (by decide) (by kernel_rfl) ⟨(fixed_check_ok _ _ hy9 _ (Ow.sl (enc := (encI .i64)) (z := 1) (fun _ => rfl) ho_o8)), trivial⟩ fun _ w10 H11 hb => ?_
  clear H6
  replace ho_o8 := ho_o8.below hb
  replace hN := hN.mono hb.size
  replace hB := hB.step hb
  clear hb
  refine wl_end rfl ?_
  clear ho_o8
  replace hN : ND w.heap.size [] [] _ := hN.pick [false]
  refine s_reg [] [0, 1, 6, 17] [(0, [], .int .i64 a_), (1, [], .int .i64 b), (6, [], .int .i64 y9), (17, [], .bool (y9 != 0))] [] H11 (by kernel_rfl) trivial fun _ w12 H13 hb => ?_
  clear H11
  replace hN := hN.mono hb.size
  replace hB := hB.step hb
  clear hb
  refine w_if H13 rfl (fun hc => ?_) (fun hc => ?_)
  · replace hm := bT hc hm
    refine s_reg [] [4, 5] [(4, [], .int .i64 0), (5, [], .int .i64 y9)] [] H13 (by kernel_rfl) trivial fun _ w14 H15 hb => ?_
    clear H13
    replace hN := hN.mono hb.size
    replace hB := hB.step hb
    clear hb
    refine w_ret ?_
    obtain rfl := someE hm
    exact ret2 H15 rfl rfl rfl ⟨rfl, hB.below⟩
  · replace hm := bF hc hm
    refine w_skip ?_
    obtain ⟨x16, hx16, hm⟩ := letE hm
    obtain ⟨x17, hx17, hm⟩ := letE hm
    obtain ⟨y18, hy18, hm⟩ := letE hm
    refine s_reg [(.tuple ⟨[.int .u64 y18.1, .int .u64 y18.2]⟩)] [0, 1, 7, 8] [(0, [], .int .i64 a_), (1, [], .int .i64 b), (7, [], .int .u64 y18.1), (8, [], .int .u64 y18.2)] [fun wz => RetB Try.prog 19 ⟨[.int .u64 (wu64 x16), .int .u64 (wu64 x17)]⟩ (.tuple ⟨[.int .u64 y18.1, .int .u64 y18.2]⟩) wz] H13 (by subst hx16 hx17 hy18; kernel_rfl) ⟨(by rw [hy18]; exact (math_bits_Mul64_ok _ _).b), trivial⟩ fun _ w19 H20 hb => ?_
    clear H13
    replace hN := hN.mono hb.size
    replace hB := hB.step hb
    clear hb
    refine s_reg [] [0, 1, 7, 8, 9] [(0, [], .int .i64 a_), (1, [], .int .i64 b), (7, [], .int .u64 y18.1), (8, [], .int .u64 y18.2), (9, [], .int .i64 1000000000000)] [] H20 (by kernel_rfl) trivial fun _ w21 H22 hb => ?_
    clear H20
    replace hN := hN.mono hb.size
    replace hB := hB.step hb
    clear hb
    obtain ⟨z23, hz, hm⟩ := bindE hm
    refine w_cut (fun a' w' => Fr 53 [(0, [], .int .i64 a_), (1, [], .int .i64 b), (9, [], .int .i64 z23)] a' ∧ Kp [] w w' ∧ ND w.heap.size [] [] w') ?_ ?_
    · replace hm := hz
      refine s_reg [] [0, 1, 7, 8, 9, 34] [(0, [], .int .i64 a_), (1, [], .int .i64 b), (7, [], .int .u64 y18.1), (8, [], .int .u64 y18.2), (9, [], .int .i64 1000000000000), (34, [], .bool (decide (y18.1 < 1000)))] [] H22 (by kernel_rfl) trivial fun _ w24 H25 hb => ?_
      clear H22
      replace hN := hN.mono hb.size
      replace hB := hB.step hb
      clear hb
      refine w_if H25 rfl (fun hc => ?_) (fun hc => ?_)
      · replace hm := bT hc hm
        obtain ⟨y26, hy26, hm⟩ := bindE hm
        refine s_reg [(.tuple ⟨[.int .u64 y26.1, .int .u64 y26.2]⟩)] [0, 1, 9, 10] [(0, [], .int .i64 a_), (1, [], .int .i64 b), (9, [], .int .i64 1000000000000), (10, [], .int .u64 y26.1)] [fun wz => RetB Try.prog 20 ⟨[.int .u64 y18.1, .int .u64 y18.2, .int .u64 1000]⟩ (.tuple ⟨[.int .u64 y26.1, .int .u64 y26.2]⟩) wz] H25 (by kernel_rfl) ⟨(math_bits_Div64_ok _ _ _ _ hy26).b, trivial⟩ fun _ w27 H28 hb => ?_
        clear H25
        replace hN := hN.mono hb.size
        replace hB := hB.step hb
        clear hb
        refine s_reg [] [0, 1, 9, 10, 42] [(0, [], .int .i64 a_), (1, [], .int .i64 b), (9, [], .int .i64 1000000000000), (10, [], .int .u64 y26.1), (42, [], .bool (decide (y26.1 < 1000000000000)))] [] H28 (by kernel_rfl) trivial fun _ w29 H30 hb => ?_
        clear H28
        replace hN := hN.mono hb.size
        replace hB := hB.step hb
        clear hb
        refine w_if H30 rfl (fun hc => ?_) (fun hc => ?_)
        · replace hm := bT hc hm
          refine w_reg [] [0, 1, 9] [(0, [], .int .i64 a_), (1, [], .int .i64 b), (9, [], .int .i64 (w64 y26.1))] [] H30 (by kernel_rfl) trivial fun _ w31 H32 hb => ?_
          clear H30
          replace hN := hN.mono hb.size
          replace hB := hB.step hb
          clear hb
          obtain rfl := someE hm
          exact ⟨Fr.keep (ks := [0, 1, 9]) H32 (by kernel_rfl), hB, hN⟩
        · replace hm := bF hc hm
          refine w_skip ?_
          obtain rfl := someE hm
          exact ⟨Fr.keep (ks := [0, 1, 9]) H30 (by kernel_rfl), hB, hN⟩
      · replace hm := bF hc hm
        refine w_skip ?_
        obtain rfl := someE hm
        exact ⟨Fr.keep (ks := [0, 1, 9]) H25 (by kernel_rfl), hB, hN⟩
    · rintro _ w41 ⟨H, hB, hN⟩
      obtain ⟨z33, hz, hm⟩ := bindE hm
      refine w_cut (fun a' w' => Fr 53 [(9, [], .int .i64 z33)] a' ∧ Kp [] w w' ∧ ND w.heap.size [] [] w') ?_ ?_
      · replace hm := hz
        refine s_reg [] [9, 49] [(9, [], .int .i64 z23), (49, [], .bool (!((decide (a_ < 0)) == (decide (b < 0)))))] [] H (by kernel_rfl) trivial fun _ w34 H35 hb => ?_
        clear H
        replace hN := hN.mono hb.size
        replace hB := hB.step hb
        clear hb
        refine w_if H35 rfl (fun hc => ?_) (fun hc => ?_)
        · replace hm := bT hc hm
          refine w_reg [] [9] [(9, [], .int .i64 (w64 (0 - z23)))] [] H35 (by kernel_rfl) trivial fun _ w36 H37 hb => ?_
          clear H35
          replace hN := hN.mono hb.size
          replace hB := hB.step hb
          clear hb
          obtain rfl := someE hm
          exact ⟨Fr.keep (ks := [9]) H37 (by kernel_rfl), hB, hN⟩
        · replace hm := bF hc hm
          refine w_skip ?_
          obtain rfl := someE hm
          exact ⟨Fr.keep (ks := [9]) H35 (by kernel_rfl), hB, hN⟩
      · rintro _ w40 ⟨H, hB, hN⟩
        refine s_reg [] [4, 5] [(4, [], .int .i64 z33), (5, [], .int .i64 0)] [] H (by kernel_rfl) trivial fun _ w38 H39 hb => ?_
        clear H
        replace hN := hN.mono hb.size
        replace hB := hB.step hb
        clear hb
        refine w_ret ?_
        obtain rfl := someE hm
        exact ret2 H39 rfl rfl rfl ⟨rfl, hB.below⟩
theorem fixed_Mul_ok  (a_ : Int) (b : Int) (r : Int × Int) (hm : fixed_Mul a_ b = some r) : Ret Try.prog 9 ⟨[.int .i64 a_, .int .i64 b]⟩ (.tuple ⟨[.int .i64 r.1, .int .i64 r.2]⟩) := ret_of (Try.call9 _) (fixed_Mul_w a_ b r hm)

def r06_product (a_ : Int) (b : Int) : Option (Int) :=
  chk ((decide (0 < (w64 (Int.tdiv a_ 1000)))) = true → (w64 (Int.tdiv a_ 1000)) ≠ 0) <|
  lt (cond (decide (0 < (w64 (Int.tdiv a_ 1000)))) (decide ((w64 (Int.tdiv 1000000000000 (w64 (Int.tdiv a_ 1000)))) < b)) false) fun x6 =>
  cond x6 (
  some 1000000000000) (
  lt (w64 (Int.tdiv (w64 ((Int.tmod a_ 1000) * b)) 1000)) fun x11 =>
  lt (w64 ((w64 ((w64 (Int.tdiv a_ 1000)) * b)) + x11)) fun x12 =>
  some (r06_Hold x12))
theorem r06_product_w  (a_ : Int) (b : Int) (r : Int) (hm : r06_product a_ b = some r) (w : World)  : Calls Try.prog 25 ⟨[.int .i64 a_, .int .i64 b]⟩ w (V.Pure (.int .i64 r) w) := by
  rw [r06_product] at hm
  refine calls_entry Try.func25 rfl Try.ntmps25 rfl fun _ H => ?_
  have hB := Kp.refl [] w
  have hN : ND w.heap.size [] [] w := ND.start (by simp) (by intro b hb; simp at hb)
  refine s_reg [] [0, 1] [(0, [], .int .i64 a_), (1, [], .int .i64 b)] [] H (by kernel_rfl) trivial fun _ w1 H2 hb => ?_
  clear H
  replace hN := hN.mono hb.size
  replace hB := hB.step hb
  clear hb
  refine s_reg [] [1, 5, 6] [(1, [], .int .i64 b), (5, [], .int .i64 (w64 (Int.tdiv a_ 1000))), (6, [], .int .i64 (Int.tmod a_ 1000))] [fun _ => (1000 : Int) ≠ 0, fun _ => (1000 : Int) ≠ 0] H2 (by kernel_rfl) ⟨(by show (1000 : Int) ≠ 0; decide), (by show (1000 : Int) ≠ 0; decide), trivial⟩ fun _ w3 H4 hb => ?_
  clear H2
  replace hN := hN.mono hb.size
  replace hB := hB.step hb
  clear hb
  refine w_seq ?_
  obtain ⟨ho5, hm⟩ := chkE hm
  obtain ⟨x6, hx6, hm⟩ := letE hm
  refine s_reg [] [1, 5, 6, 18] [(1, [], .int .i64 b), (5, [], .int .i64 (w64 (Int.tdiv a_ 1000))), (6, [], .int .i64 (Int.tmod a_ 1000)), (18, [], .bool x6)] [fun _ => ((decide (0 < (w64 (Int.tdiv a_ 1000)))) = true ∧ True → (w64 (Int.tdiv a_ 1000)) ≠ 0)] H4 (by subst hx6; kernel_rfl) ⟨fun h => ho5 h.1, trivial⟩ fun _ w7 H8 hb => ?_
  clear H4
  replace hN := hN.mono hb.size
  replace hB := hB.step hb
  clear hb
  refine w_if H8 rfl (fun hc => ?_) (fun hc => ?_)
  · replace hm := bT hc hm
    refine s_reg [] [4] [(4, [], .int .i64 1000000000000)] [] H8 (by kernel_rfl) trivial fun _ w9 H10 hb => ?_
    clear H8
    replace hN := hN.mono hb.size
    replace hB := hB.step hb
    clear hb
    refine w_ret ?_
    obtain rfl := someE hm
    exact ret1 H10 rfl rfl ⟨rfl, hB.below⟩
  · replace hm := bF hc hm
    refine w_skip ?_
    obtain ⟨x11, hx11, hm⟩ := letE hm
    obtain ⟨x12, hx12, hm⟩ := letE hm
    refine s_reg [(.int .i64 (r06_Hold x12))] [4] [(4, [], .int .i64 (r06_Hold x12))] [fun _ => (1000 : Int) ≠ 0, fun wz => RetB Try.prog 18 ⟨[.int .i64 x12]⟩ (.int .i64 (r06_Hold x12)) wz] H8 (by subst hx11 hx12; kernel_rfl) ⟨(by show (1000 : Int) ≠ 0; decide), (r06_Hold_ok _).b, trivial⟩ fun _ w13 H14 hb => ?_
    clear H8
    replace hN := hN.mono hb.size
    replace hB := hB.step hb
    clear hb
    refine w_ret ?_
    obtain rfl := someE hm
    exact ret1 H14 rfl rfl ⟨rfl, hB.below⟩
theorem r06_product_ok  (a_ : Int) (b : Int) (r : Int) (hm : r06_product a_ b = some r) : Ret Try.prog 25 ⟨[.int .i64 a_, .int .i64 b]⟩ (.int .i64 r) := ret_of (Try.call25 _) (r06_product_w a_ b r hm)

def r06_Times_r : Nat → Int → Int → Option (Int)
  | 0, _, _ => none
  | m + 1, a_, b =>
    cond (decide (a_ < 0)) (
    Option.bind (r06_Times_r m (w64 (0 - a_)) b) fun y5 =>
    some (w64 (0 - y5))) (
    cond (decide (b < 0)) (
    Option.bind (r06_product a_ (w64 (0 - b))) fun y10 =>
    some (w64 (0 - y10))) (
    Option.bind (r06_product a_ b) fun y13 =>
    some y13))
theorem r06_Times_w : ∀ (m : Nat) (a_ : Int) (b : Int) (r : Int), r06_Times_r m a_ b = some r → ∀ w, Calls Try.prog 21 ⟨[.int .i64 a_, .int .i64 b]⟩ w (V.Pure (.int .i64 r) w) := by
  intro m
  induction m with
  | zero => intro a_ b r hm; exact noneE hm
  | succ m ih =>
    intro a_ b r hm w
    rw [r06_Times_r] at hm
    refine calls_entry Try.func21 rfl Try.ntmps21 rfl fun _ H => ?_
    have hB := Kp.refl [] w
    have hN : ND w.heap.size [] [] w := ND.start (by simp) (by intro b hb; simp at hb)
    refine s_reg [] [0, 1] [(0, [], .int .i64 a_), (1, [], .int .i64 b)] [] H (by kernel_rfl) trivial fun _ w1 H2 hb => ?_
    clear H
    replace hN := hN.mono hb.size
    replace hB := hB.step hb
    clear hb
    refine w_seq ?_
    refine s_reg [] [0, 1, 6] [(0, [], .int .i64 a_), (1, [], .int .i64 b), (6, [], .bool (decide (a_ < 0)))] [] H2 (by kernel_rfl) trivial fun _ w3 H4 hb => ?_
    clear H2
    replace hN := hN.mono hb.size
    replace hB := hB.step hb
    clear hb
    refine w_if H4 rfl (fun hc => ?_) (fun hc => ?_)
    · replace hm := bT hc hm
      obtain ⟨y5, hy5, hm⟩ := bindE hm
      refine s_reg [(.int .i64 y5)] [4] [(4, [], .int .i64 (w64 (0 - y5)))] [fun wz => RetB Try.prog 21 ⟨[.int .i64 (w64 (0 - a_)), .int .i64 b]⟩ (.int .i64 y5) wz] H4 (by kernel_rfl) ⟨(ret_of (Try.call21 _) (ih _ _ _ hy5)).b, trivial⟩ fun _ w6 H7 hb => ?_
      clear H4
      replace hN := hN.mono hb.size
      replace hB := hB.step hb
      clear hb
      refine w_ret ?_
      obtain rfl := someE hm
      exact ret1 H7 rfl rfl ⟨rfl, hB.below⟩
    · replace hm := bF hc hm
      refine w_skip ?_
      refine w_seq ?_
      refine s_reg [] [0, 1, 13] [(0, [], .int .i64 a_), (1, [], .int .i64 b), (13, [], .bool (decide (b < 0)))] [] H4 (by kernel_rfl) trivial fun _ w8 H9 hb => ?_
      clear H4
      replace hN := hN.mono hb.size
      replace hB := hB.step hb
      clear hb
      refine w_if H9 rfl (fun hc => ?_) (fun hc => ?_)
      · replace hm := bT hc hm
        obtain ⟨y10, hy10, hm⟩ := bindE hm
        refine s_reg [(.int .i64 y10)] [4] [(4, [], .int .i64 (w64 (0 - y10)))] [fun wz => RetB Try.prog 25 ⟨[.int .i64 a_, .int .i64 (w64 (0 - b))]⟩ (.int .i64 y10) wz] H9 (by kernel_rfl) ⟨(r06_product_ok _ _ _ hy10).b, trivial⟩ fun _ w11 H12 hb => ?_
        clear H9
        replace hN := hN.mono hb.size
        replace hB := hB.step hb
        clear hb
        refine w_ret ?_
        obtain rfl := someE hm
        exact ret1 H12 rfl rfl ⟨rfl, hB.below⟩
      · replace hm := bF hc hm
        refine w_skip ?_
        obtain ⟨y13, hy13, hm⟩ := bindE hm
        refine s_reg [(.int .i64 y13)] [4] [(4, [], .int .i64 y13)] [fun wz => RetB Try.prog 25 ⟨[.int .i64 a_, .int .i64 b]⟩ (.int .i64 y13) wz] H9 (by kernel_rfl) ⟨(r06_product_ok _ _ _ hy13).b, trivial⟩ fun _ w14 H15 hb => ?_
        clear H9
        replace hN := hN.mono hb.size
        replace hB := hB.step hb
        clear hb
        refine w_ret ?_
        obtain rfl := someE hm
        exact ret1 H15 rfl rfl ⟨rfl, hB.below⟩
def r06_Times (a_ : Int) (b : Int) : Option (Int) := r06_Times_r (2) a_ b
theorem r06_Times_ok (a_ : Int) (b : Int) (r : Int) (hm : r06_Times a_ b = some r) : Ret Try.prog 21 ⟨[.int .i64 a_, .int .i64 b]⟩ (.int .i64 r) := ret_of (Try.call21 _) (r06_Times_w _ a_ b r hm)

def r06_Mul (a_ : Int) (b : Int) : Option (Int × Int) :=
  cond (cond (!(r06_Is a_)) true (!(r06_Is b))) (
  some (0, 8)) (
  Option.bind (r06_Times a_ b) fun y7 =>
  some (y7, 0))
theorem r06_Mul_w  (a_ : Int) (b : Int) (r : Int × Int) (hm : r06_Mul a_ b = some r) (w : World)  : Calls Try.prog 10 ⟨[.int .i64 a_, .int .i64 b]⟩ w (V.Pure (.tuple ⟨[.int .i64 r.1, .int .i64 r.2]⟩) w) := by
  rw [r06_Mul] at hm
  refine calls_entry Try.func10 rfl Try.ntmps10 rfl fun _ H => ?_
  have hB := Kp.refl [] w
  have hN : ND w.heap.size [] [] w := ND.start (by simp) (by intro b hb; simp at hb)
  refine s_reg [] [0, 1] [(0, [], .int .i64 a_), (1, [], .int .i64 b)] [] H (by kernel_rfl) trivial fun _ w1 H2 hb => ?_
  clear H
  replace hN := hN.mono hb.size
  replace hB := hB.step hb
  clear hb
  refine w_seq ?_
  refine s_reg [(.bool (r06_Is a_)), (.bool (r06_Is b))] [0, 1, 13] [(0, [], .int .i64 a_), (1, [], .int .i64 b), (13, [], .bool (cond (!(r06_Is a_)) true (!(r06_Is b))))] [fun wz => RetB Try.prog 13 ⟨[.int .i64 a_]⟩ (.bool (r06_Is a_)) wz, fun wz => ((!(r06_Is a_)) = false ∧ True → RetB Try.prog 13 ⟨[.int .i64 b]⟩ (.bool (r06_Is b)) wz)] H2 (by kernel_rfl) ⟨(r06_Is_ok _).b, fun _ => (r06_Is_ok _).b, trivial⟩ fun _ w3 H4 hb => ?_
  clear H2
  replace hN := hN.mono hb.size
  replace hB := hB.step hb
  clear hb
  refine w_if H4 rfl (fun hc => ?_) (fun hc => ?_)
  · replace hm := bT hc hm
    refine s_reg [] [4, 5] [(4, [], .int .i64 0), (5, [], .int .i64 8)] [] H4 (by kernel_rfl) trivial fun _ w5 H6 hb => ?_
    clear H4
    replace hN := hN.mono hb.size
    replace hB := hB.step hb
    clear hb
    refine w_ret ?_
    obtain rfl := someE hm
    exact ret2 H6 rfl rfl rfl ⟨rfl, hB.below⟩
  · replace hm := bF hc hm
    refine w_skip ?_
    obtain ⟨y7, hy7, hm⟩ := bindE hm
    refine s_reg [(.int .i64 y7)] [4, 5] [(4, [], .int .i64 y7), (5, [], .int .i64 0)] [fun wz => RetB Try.prog 21 ⟨[.int .i64 a_, .int .i64 b]⟩ (.int .i64 y7) wz] H4 (by kernel_rfl) ⟨(r06_Times_ok _ _ _ hy7).b, trivial⟩ fun _ w8 H9 hb => ?_
    clear H4
    replace hN := hN.mono hb.size
    replace hB := hB.step hb
    clear hb
    refine w_ret ?_
    obtain rfl := someE hm
    exact ret2 H9 rfl rfl rfl ⟨rfl, hB.below⟩
theorem r06_Mul_ok  (a_ : Int) (b : Int) (r : Int × Int) (hm : r06_Mul a_ b = some r) : Ret Try.prog 10 ⟨[.int .i64 a_, .int .i64 b]⟩ (.tuple ⟨[.int .i64 r.1, .int .i64 r.2]⟩) := ret_of (Try.call10 _) (r06_Mul_w a_ b r hm)

def fixed_Write_1 (c : Int) (u0 : Int) (u1 : List Int) : Option (Int × List Int) :=
  chk (0 ≤ (w64 (u0 - 1)) ∧ (w64 (u0 - 1)) < 20) <|
  lt (seti u1 (w64 (u0 - 1)) c) fun q10 =>
  some (w64 (u0 - 1), q10)
theorem fixed_Write_1_w {b_u0 : Nat} {b_u1 : Nat} (c : Int) (u0 : Int) (u1 : List Int) (r : Int × List Int) (hm : fixed_Write_1 c u0 u1 = some r) (w : World) (hk_b_u0 : Blk w b_u0 [.int .i64 u0]) (hk_b_u1 : Rw .u8 w b_u1 u1) (hl_b_u1 : ln u1 = (20 : Int)) (hG : [b_u0, b_u1].Nodup) : Calls Try.prog 28 ⟨[.int .u8 c, .pointer (some ⟨b_u0, 0, none⟩), .pointer (some ⟨b_u1, 0, none⟩)]⟩ w (fun e w' => e = .returned (.tuple ⟨[]⟩) ∧ Kp [b_u0, b_u1] w w' ∧ Blk w' b_u0 [.int .i64 r.1] ∧ Rw .u8 w' b_u1 r.2 ∧ ln r.2 = (20 : Int)) := by
  rw [fixed_Write_1] at hm
  refine calls_entry Try.func28 rfl Try.ntmps28 rfl fun _ H => ?_
  have hB := Kp.refl [b_u0, b_u1] w
  have hN : ND w.heap.size [] [b_u0, b_u1] w := ND.start hG (by intro b hb; simp at hb; rcases hb with rfl | rfl; exact hk_b_u0.lt; exact hk_b_u1.lt)
  refine w_seq ?_
  refine wl_start ?_
  refine wl_batch 0 2 [(.int .i64 u0)] [0, 1, 2, 5] [(0, [], .int .u8 c), (1, [], .pointer (some ⟨b_u0, 0, none⟩)), (2, [], .pointer (some ⟨b_u1, 0, none⟩)), (5, [], .int .i64 (w64 (u0 - 1)))] [fun wz => V.at1 ⟨b_u0, 0, none⟩ (.int .i64 u0) wz] H (by decide) (by kernel_rfl) ⟨(hk_b_u0.at1 rfl), trivial⟩ fun _ w1 H2 hb => ?_
  clear H
  replace hk_b_u0 := hk_b_u0.below hb
  replace hk_b_u1 := hk_b_u1.below hb
  replace hN := hN.mono hb.size
  replace hB := hB.step hb
  clear hb
  refine m_store2 [.int .i64 (w64 (u0 - 1))] [0, 1, 2] [(0, [], .int .u8 c), (1, [], .pointer (some ⟨b_u0, 0, none⟩)), (2, [], .pointer (some ⟨b_u1, 0, none⟩))] H2 rfl rfl rfl hk_b_u0 (by kernel_rfl) rfl rfl rfl rfl fun _ w3 H4 hq hk => ?_
  clear H2
  replace hk_b_u1 := hk_b_u1.kp hq (hN.dj 1 0 (by decide) _ (List.mem_singleton.2 rfl))
  replace hB := hB.trans hq (ext1 (by simp))
  replace hN := hN.mono hq.size
  clear hq
  replace hk_b_u0 := hk
  clear hk
  refine wl_end rfl ?_
  refine wl_start ?_
  obtain ⟨ho5, hm⟩ := chkE hm
  refine wl_batch 0 3 [(.int .i64 (w64 (u0 - 1)))] [7, 8] [(7, [], .int .u8 c), (8, [], .pointer (some ⟨b_u1, 0 + (w64 (u0 - 1)).toNat * 1, none⟩))] [fun wz => V.at1 ⟨b_u0, 0, none⟩ (.int .i64 (w64 (u0 - 1))) wz, fun _ => 0 ≤ (w64 (u0 - 1)) ∧ (w64 (u0 - 1)) < 20] H4 (by decide) (by kernel_rfl) ⟨(hk_b_u0.at1 rfl), ho5, trivial⟩ fun _ w6 H7 hb => ?_
  clear H4
  replace hk_b_u0 := hk_b_u0.below hb
  replace hk_b_u1 := hk_b_u1.below hb
  replace hN := hN.mono hb.size
  replace hB := hB.step hb
  clear hb
  refine m_rstore [] [] H7 rfl rfl rfl hk_b_u1 (by kernel_rfl) (rwb ho5 hl_b_u1) rfl fun _ w8 H9 hq hk => ?_
  clear H7
  obtain ⟨q10, hq10, hm⟩ := letE hm
  rw [← hq10] at hk
  replace hl_b_u1 : ln q10 = (20 : Int) := (by rw [hq10, ln_seti]; exact hl_b_u1)
  replace hk_b_u0 := hk_b_u0.kp hq (hN.dj 0 1 (by decide) _ (List.mem_singleton.2 rfl))
  replace hB := hB.trans hq (ext1 (by simp))
  replace hN := hN.mono hq.size
  clear hq
  replace hk_b_u1 := hk
  clear hk
  refine wl_end rfl ?_
  obtain rfl := someE hm
  exact ret0 H9 rfl ⟨rfl, hB, hk_b_u0, hk_b_u1, hl_b_u1⟩
theorem fixed_Write_1_ok {b_u0 : Nat} {b_u1 : Nat} (c : Int) (u0 : Int) (u1 : List Int) (r : Int × List Int) (hm : fixed_Write_1 c u0 u1 = some r) (w : World) (hk_b_u0 : Blk w b_u0 [.int .i64 u0]) (hk_b_u1 : Rw .u8 w b_u1 u1) (hl_b_u1 : ln u1 = (20 : Int)) (hG : [b_u0, b_u1].Nodup) : Does Try.prog 28 ⟨[.int .u8 c, .pointer (some ⟨b_u0, 0, none⟩), .pointer (some ⟨b_u1, 0, none⟩)]⟩ w (.tuple ⟨[]⟩) (fun w' => Kp [b_u0, b_u1] w w' ∧ Blk w' b_u0 [.int .i64 r.1] ∧ Rw .u8 w' b_u1 r.2 ∧ ln r.2 = (20 : Int)) := ⟨Try.call28 _, fixed_Write_1_w c u0 u1 r hm w hk_b_u0 hk_b_u1 hl_b_u1 hG⟩

def fixed_Write_L1  : Nat → Int → Int → Int → (List Int) → Option (Int × (List Int))
  | 0, _, _, _, _ => none
  | m + 1, v38, v39, v40, v41 =>
    cond (decide (v39 < 3)) (
    Option.bind (
    Option.bind (
    lt (cond ((Int.tmod v38 10) != 0) true (decide (v40 < 20))) fun x50 =>
    cond x50 (
    Option.bind (fixed_Write_1 (wu8 (w64 (48 + (Int.tmod v38 10)))) v40 v41) fun y57 =>
    some (y57.1, y57.2)) (
    some (v40, v41))) fun (z47 : Int × (List Int)) =>
    lt (cond (v39 == 2) (decide (z47.1 < 20)) false) fun x60 =>
    cond x60 (
    Option.bind (fixed_Write_1 46 z47.1 z47.2) fun y67 =>
    some (w64 (Int.tdiv v38 10), y67.1, y67.2)) (
    some (w64 (Int.tdiv v38 10), z47.1, z47.2))) fun (z44 : Int × Int × (List Int)) =>
    fixed_Write_L1  m z44.1 (w64 (v39 + 1)) z44.2.1 z44.2.2) (
    some (v40, v41))
def fixed_Write_L2  : Nat → Int → Int → (List Int) → Option (Int × (List Int))
  | 0, _, _, _ => none
  | m + 1, v76, v77, v78 =>
    Option.bind (fixed_Write_1 (wu8 (w64 (48 + (Int.tmod v76 10)))) v77 v78) fun y83 =>
    cond (decide (v76 < 10)) (
    some (y83.1, y83.2)) (
    fixed_Write_L2  m (w64 (Int.tdiv v76 10)) y83.1 y83.2)
def fixed_Write (n_ : Int) : Option (Str × Int) :=
  Option.bind (fixed_check [n_]) fun y9 =>
  cond (y9 != 0) (
  some ([], y9)) (
  Option.bind (
  cond (decide (n_ < 0)) (
  some (w64 (0 - n_))) (
  some n_)) fun (z18 : Int) =>
  Option.bind (
  fixed_Write_L1  (((3 : Int) - 0).toNat + 1) (Int.tmod z18 1000) 0 20 [0, 0, 0, 0, 0, 0, 0, 0, 0, 0, 0, 0, 0, 0, 0, 0, 0, 0, 0, 0]) fun (z35 : Int × (List Int)) =>
  Option.bind (
  fixed_Write_L2  (30) (w64 (Int.tdiv z18 1000)) z35.1 z35.2) fun (z73 : Int × (List Int)) =>
  Option.bind (
  cond (decide (n_ < 0)) (
  Option.bind (fixed_Write_1 45 z73.1 z73.2) fun y96 =>
  some (y96.1, y96.2)) (
  some (z73.1, z73.2))) fun (z89 : Int × (List Int)) =>
  chk (0 ≤ z89.1 ∧ z89.1 < 20) <|
  some (toB (z89.2.drop (z89.1).toNat), 0))
theorem fixed_Write_w  (n_ : Int) (r : Str × Int) (hm : fixed_Write n_ = some r) (w : World)  : Calls Try.prog 26 ⟨[.int .i64 n_]⟩ w (V.Pure (.tuple ⟨[.string ⟨⟨r.1⟩⟩, .int .i64 r.2]⟩) w) := by
  rw [fixed_Write] at hm
  refine calls_entry Try.func26 rfl Try.ntmps26 rfl fun _ H => ?_
  have hB := Kp.refl [] w
  have hN : ND w.heap.size [] [] w := ND.start (by simp) (by intro b hb; simp at hb)
  refine s_reg [] [0] [(0, [], .int .i64 n_)] [] H (by kernel_rfl) trivial fun _ w1 H2 hb => ?_
  clear H
  replace hN := hN.mono hb.size
  replace hB := hB.step hb
  clear hb
  refine w_seq ?_
  refine w_seq ?_
  refine wl_start ?_
  refine wl_batch 0 1 [] [0, 12] [(0, [], .int .i64 n_), (12, [], .int .i64 n_)] [] H2 (by decide) (by kernel_rfl) trivial fun _ w3 H4 hb => ?_
  clear H2
  replace hN := hN.mono hb.size
  replace hB := hB.step hb
  clear hb
  refine m_buildO (enc := (encI .i64)) (E := 2) (z := 1) (zv := .int .i64 0) (fun _ => rfl) [.int .i64 n_] ([n_] : List (Int)) [13, 0] [(0, [], .int .i64 n_)] _ H4 rfl rfl rfl (by kernel_rfl) (by kernel_rfl) (by kernel_rfl) (by kernel_rfl) (by kernel_rfl) rfl rfl rfl (fun _ => rfl) fun _ w5 a7 H6 hq ha ho_o8 => ?_
  clear H4
  replace hB := hB.step0 hq
  replace hN : ND w.heap.size [abl a7] [] _ := hN.birth hq.size (abl a7) (by rw [ha]; simp) ho_o8.lt
  clear hq ha
  obtain ⟨y9, hy9, hm⟩ := bindE hm
  refine wl_batch 2 4 [(.int .i64 y9)] [0, 4] [(0, [], .int .i64 n_), (4, [], .int .i64 y9)] [fun wz => RetB Try.prog 16 ⟨[.slice a7 1 1]⟩ (.int .i64 y9) wz] H6 (by decide) (by kernel_rfl) ⟨(fixed_check_ok _ _ hy9 _ (Ow.sl (enc := (encI .i64)) (z := 1) (fun _ => rfl) ho_o8)), trivial⟩ fun _ w10 H11 hb => ?_
  clear H6
  replace ho_o8 := ho_o8.below hb
  replace hN := hN.mono hb.size
  replace hB := hB.step hb
  clear hb
  refine wl_end rfl ?_
  clear ho_o8
  replace hN : ND w.heap.size [] [] _ := hN.pick [false]
  refine s_reg [] [0, 4, 16] [(0, [], .int .i64 n_), (4, [], .int .i64 y9), (16, [], .bool (y9 != 0))] [] H11 (by kernel_rfl) trivial fun _ w12 H13 hb => ?_
  clear H11
  replace hN := hN.mono hb.size
  replace hB := hB.step hb
  clear hb
  refine w_if H13 rfl (fun hc => ?_) (fun hc => ?_)
  · replace hm := bT hc hm
    refine s_reg [] [2, 3] [(2, [], .string ⟨⟨[]⟩⟩), (3, [], .int .i64 y9)] [] H13 (by kernel_rfl) trivial fun _ w14 H15 hb => ?_
    clear H13
    replace hN := hN.mono hb.size
    replace hB := hB.step hb
    clear hb
    refine w_ret ?_
    obtain rfl := someE hm
    exact ret2 H15 rfl rfl rfl ⟨rfl, hB.below⟩
  · replace hm := bF hc hm
    refine w_skip ?_
    refine s_reg [] [0, 5] [(0, [], .int .i64 n_), (5, [], .bool (decide (n_ < 0)))] [] H13 (by kernel_rfl) trivial fun _ w16 H17 hb => ?_
    clear H13
    replace hN := hN.mono hb.size
    replace hB := hB.step hb
    clear hb
    obtain ⟨z18, hz, hm⟩ := bindE hm
    refine w_cut (fun a' w' => Fr 71 [(5, [], .bool (decide (n_ < 0))), (0, [], .int .i64 z18)] a' ∧ Kp [] w w' ∧ ND w.heap.size [] [] w') ?_ ?_
    · replace hm := hz
      refine s_reg [] [0, 5, 20] [(0, [], .int .i64 n_), (5, [], .bool (decide (n_ < 0))), (20, [], .bool (decide (n_ < 0)))] [] H17 (by kernel_rfl) trivial fun _ w19 H20 hb => ?_
      clear H17
      replace hN := hN.mono hb.size
      replace hB := hB.step hb
      clear hb
      refine w_if H20 rfl (fun hc => ?_) (fun hc => ?_)
      · replace hm := bT hc hm
        refine w_reg [] [0, 5] [(0, [], .int .i64 (w64 (0 - n_))), (5, [], .bool (decide (n_ < 0)))] [] H20 (by kernel_rfl) trivial fun _ w21 H22 hb => ?_
        clear H20
        replace hN := hN.mono hb.size
        replace hB := hB.step hb
        clear hb
        obtain rfl := someE hm
        exact ⟨Fr.keep (ks := [5, 0]) H22 (by kernel_rfl), hB, hN⟩
      · replace hm := bF hc hm
        refine w_skip ?_
        obtain rfl := someE hm
        exact ⟨Fr.keep (ks := [5, 0]) H20 (by kernel_rfl), hB, hN⟩
    · rintro _ w103 ⟨H, hB, hN⟩
      refine w_seq ?_
      refine wl_start ?_
      refine m_alloc (z := .agg ⟨[.int .u8 0, .int .u8 0, .int .u8 0, .int .u8 0, .int .u8 0, .int .u8 0, .int .u8 0, .int .u8 0, .int .u8 0, .int .u8 0, .int .u8 0, .int .u8 0, .int .u8 0, .int .u8 0, .int .u8 0, .int .u8 0, .int .u8 0, .int .u8 0, .int .u8 0, .int .u8 0]⟩) [.int .u8 0, .int .u8 0, .int .u8 0, .int .u8 0, .int .u8 0, .int .u8 0, .int .u8 0, .int .u8 0, .int .u8 0, .int .u8 0, .int .u8 0, .int .u8 0, .int .u8 0, .int .u8 0, .int .u8 0, .int .u8 0, .int .u8 0, .int .u8 0, .int .u8 0, .int .u8 0] [6, 0, 5] [(0, [], .int .i64 z18), (5, [], .bool (decide (n_ < 0)))] H rfl (by kernel_rfl) (by kernel_rfl) rfl (fun _ => rfl) fun _ w23 b25 H24 hq heq hk_b25 => ?_
      clear H
      replace hB := hB.step0 hq
      replace hN : ND w.heap.size [[b25]] [] _ := hN.birth1 hq.size heq hk_b25.lt
      clear hq heq
      replace hk_b25 : Rw .u8 _ b25 [0, 0, 0, 0, 0, 0, 0, 0, 0, 0, 0, 0, 0, 0, 0, 0, 0, 0, 0, 0] := Blk.row (l := [0, 0, 0, 0, 0, 0, 0, 0, 0, 0, 0, 0, 0, 0, 0, 0, 0, 0, 0, 0]) hk_b25
      have hl_b25 : ln [0, 0, 0, 0, 0, 0, 0, 0, 0, 0, 0, 0, 0, 0, 0, 0, 0, 0, 0, 0] = (20 : Int) := rfl
      refine wl_end rfl ?_
      refine w_seq ?_
      refine wl_start ?_
      refine m_alloc (z := .int .i64 0) [.int .i64 0] [7, 0, 5, 6] [(0, [], .int .i64 z18), (5, [], .bool (decide (n_ < 0))), (6, [], .pointer (some ⟨b25, 0, none⟩))] H24 rfl (by kernel_rfl) (by kernel_rfl) rfl (fun _ => rfl) fun _ w26 b28 H27 hq heq hk_b28 => ?_
      clear H24
      replace hk_b25 := hk_b25.kp hq nin0
      replace hB := hB.step0 hq
      replace hN : ND w.heap.size [[b28], [b25]] [] _ := hN.birth1 hq.size heq hk_b28.lt
      clear hq heq
      refine m_store2 [.int .i64 20] [0, 5, 6, 7] [(0, [], .int .i64 z18), (5, [], .bool (decide (n_ < 0))), (6, [], .pointer (some ⟨b25, 0, none⟩)), (7, [], .pointer (some ⟨b28, 0, none⟩))] H27 rfl rfl rfl hk_b28 (by kernel_rfl) rfl rfl rfl rfl fun _ w29 H30 hq hk => ?_
      clear H27
      replace hk_b25 := hk_b25.kp hq (hN.dj 1 0 (by decide) _ (List.mem_singleton.2 rfl))
      replace hB := hB.trans hq (hN.low 0)
      replace hN := hN.mono hq.size
      clear hq
      replace hk_b28 := hk
      clear hk
      refine wl_end rfl ?_
      refine s_reg [] [0, 5, 6, 7, 8] [(0, [], .int .i64 z18), (5, [], .bool (decide (n_ < 0))), (6, [], .pointer (some ⟨b25, 0, none⟩)), (7, [], .pointer (some ⟨b28, 0, none⟩)), (8, [], .func (.func 28) ⟨[]⟩ ⟨[.pointer (some ⟨b28, 0, none⟩), .pointer (some ⟨b25, 0, none⟩)]⟩)] [] H30 (by kernel_rfl) trivial fun _ w31 H32 hb => ?_
      clear H30
      replace hk_b28 := hk_b28.below hb
      replace hk_b25 := hk_b25.below hb
      replace hN := hN.mono hb.size
      replace hB := hB.step hb
      clear hb
      refine s_reg [] [0, 5, 6, 7, 8, 9] [(0, [], .int .i64 z18), (5, [], .bool (decide (n_ < 0))), (6, [], .pointer (some ⟨b25, 0, none⟩)), (7, [], .pointer (some ⟨b28, 0, none⟩)), (8, [], .func (.func 28) ⟨[]⟩ ⟨[.pointer (some ⟨b28, 0, none⟩), .pointer (some ⟨b25, 0, none⟩)]⟩), (9, [], .int .i64 (Int.tmod z18 1000))] [fun _ => (1000 : Int) ≠ 0] H32 (by kernel_rfl) ⟨(by show (1000 : Int) ≠ 0; decide), trivial⟩ fun _ w33 H34 hb => ?_
      clear H32
      replace hk_b28 := hk_b28.below hb
      replace hk_b25 := hk_b25.below hb
      replace hN := hN.mono hb.size
      replace hB := hB.step hb
      clear hb
      obtain ⟨z35, hz, hm⟩ := bindE hm
      refine w_cut (fun a' w' => Fr 71 [(0, [], .int .i64 z18), (5, [], .bool (decide (n_ < 0))), (6, [], .pointer (some ⟨b25, 0, none⟩)), (7, [], .pointer (some ⟨b28, 0, none⟩)), (8, [], .func (.func 28) ⟨[]⟩ ⟨[.pointer (some ⟨b28, 0, none⟩), .pointer (some ⟨b25, 0, none⟩)]⟩)] a' ∧ Kp [] w w' ∧ ND w.heap.size [[b28], [b25]] [] w' ∧ Blk w' b28 [.int .i64 z35.1] ∧ Rw .u8 w' b25 z35.2 ∧ ln z35.2 = (20 : Int)) ?_ ?_
      · replace hm := hz
        refine s_reg [] [0, 5, 6, 7, 8, 9, 26] [(0, [], .int .i64 z18), (5, [], .bool (decide (n_ < 0))), (6, [], .pointer (some ⟨b25, 0, none⟩)), (7, [], .pointer (some ⟨b28, 0, none⟩)), (8, [], .func (.func 28) ⟨[]⟩ ⟨[.pointer (some ⟨b28, 0, none⟩), .pointer (some ⟨b25, 0, none⟩)]⟩), (9, [], .int .i64 (Int.tmod z18 1000)), (26, [], .int .i64 0)] [] H34 (by kernel_rfl) trivial fun _ w36 H37 hb => ?_
        clear H34
        replace hk_b28 := hk_b28.below hb
        replace hk_b25 := hk_b25.below hb
        replace hN := hN.mono hb.size
        replace hB := hB.step hb
        clear hb
        refine w_block ?_
        refine w_loop (fun m a' w' => ∃ (v38 : Int) (v39 : Int) (v40 : Int) (v41 : List Int), fixed_Write_L1  m v38 v39 v40 v41 = some _ ∧ Fr 71 [(0, [], .int .i64 z18), (5, [], .bool (decide (n_ < 0))), (6, [], .pointer (some ⟨b25, 0, none⟩)), (7, [], .pointer (some ⟨b28, 0, none⟩)), (8, [], .func (.func 28) ⟨[]⟩ ⟨[.pointer (some ⟨b28, 0, none⟩), .pointer (some ⟨b25, 0, none⟩)]⟩), (9, [], .int .i64 v38), (26, [], .int .i64 v39)] a' ∧ Kp [] w w' ∧ ND w.heap.size [[b28], [b25]] [] w' ∧ Blk w' b28 [.int .i64 v40] ∧ Rw .u8 w' b25 v41 ∧ ln v41 = (20 : Int)) ⟨_, Int.tmod z18 1000, 0, 20, [0, 0, 0, 0, 0, 0, 0, 0, 0, 0, 0, 0, 0, 0, 0, 0, 0, 0, 0, 0], hm, Fr.keep (ks := [0, 5, 6, 7, 8, 9, 26]) H37 (by kernel_rfl), hB, hN, hk_b28, hk_b25, hl_b25⟩ ?_
        clear hm H37 hB hN hk_b28 hk_b25 hl_b25
        rintro m _ w72 ⟨v38, v39, v40, v41, hm, H, hB, hN, hk_b28, hk_b25, hl_b25⟩
        cases m with
        | zero => exact noneE hm
        | succ m =>
          rw [fixed_Write_L1] at hm
          refine s_reg [] [0, 5, 6, 7, 8, 9, 26, 27] [(0, [], .int .i64 z18), (5, [], .bool (decide (n_ < 0))), (6, [], .pointer (some ⟨b25, 0, none⟩)), (7, [], .pointer (some ⟨b28, 0, none⟩)), (8, [], .func (.func 28) ⟨[]⟩ ⟨[.pointer (some ⟨b28, 0, none⟩), .pointer (some ⟨b25, 0, none⟩)]⟩), (9, [], .int .i64 v38), (26, [], .int .i64 v39), (27, [], .bool (decide (v39 < 3)))] [] H (by kernel_rfl) trivial fun _ w42 H43 hb => ?_
          clear H
          replace hk_b28 := hk_b28.below hb
          replace hk_b25 := hk_b25.below hb
          replace hN := hN.mono hb.size
          replace hB := hB.step hb
          clear hb
          refine w_seq ?_
          refine w_if H43 rfl (fun hc => ?_) (fun hc => ?_)
          · replace hm := bT hc hm
            refine w_skip ?_
            obtain ⟨z44, hz, hm⟩ := bindE hm
            refine w_cut (fun a' w' => Fr 71 [(0, [], .int .i64 z18), (5, [], .bool (decide (n_ < 0))), (6, [], .pointer (some ⟨b25, 0, none⟩)), (7, [], .pointer (some ⟨b28, 0, none⟩)), (8, [], .func (.func 28) ⟨[]⟩ ⟨[.pointer (some ⟨b28, 0, none⟩), .pointer (some ⟨b25, 0, none⟩)]⟩), (26, [], .int .i64 v39), (9, [], .int .i64 z44.1)] a' ∧ Kp [] w w' ∧ ND w.heap.size [[b28], [b25]] [] w' ∧ Blk w' b28 [.int .i64 z44.2.1] ∧ Rw .u8 w' b25 z44.2.2 ∧ ln z44.2.2 = (20 : Int)) ?_ ?_
            · replace hm := hz
              refine w_block ?_
              refine s_reg [] [0, 5, 6, 7, 8, 9, 10, 26] [(0, [], .int .i64 z18), (5, [], .bool (decide (n_ < 0))), (6, [], .pointer (some ⟨b25, 0, none⟩)), (7, [], .pointer (some ⟨b28, 0, none⟩)), (8, [], .func (.func 28) ⟨[]⟩ ⟨[.pointer (some ⟨b28, 0, none⟩), .pointer (some ⟨b25, 0, none⟩)]⟩), (9, [], .int .i64 v38), (10, [], .int .i64 v39), (26, [], .int .i64 v39)] [] H43 (by kernel_rfl) trivial fun _ w45 H46 hb => ?_
              clear H43
              replace hk_b28 := hk_b28.below hb
              replace hk_b25 := hk_b25.below hb
              replace hN := hN.mono hb.size
              replace hB := hB.step hb
              clear hb
              obtain ⟨z47, hz, hm⟩ := bindE hm
              refine w_cut (fun a' w' => Fr 71 [(0, [], .int .i64 z18), (5, [], .bool (decide (n_ < 0))), (6, [], .pointer (some ⟨b25, 0, none⟩)), (7, [], .pointer (some ⟨b28, 0, none⟩)), (8, [], .func (.func 28) ⟨[]⟩ ⟨[.pointer (some ⟨b28, 0, none⟩), .pointer (some ⟨b25, 0, none⟩)]⟩), (9, [], .int .i64 v38), (10, [], .int .i64 v39), (26, [], .int .i64 v39)] a' ∧ Kp [] w w' ∧ ND w.heap.size [[b28], [b25]] [] w' ∧ Blk w' b28 [.int .i64 z47.1] ∧ Rw .u8 w' b25 z47.2 ∧ ln z47.2 = (20 : Int)) ?_ ?_
              · replace hm := hz
                refine s_reg [] [0, 5, 6, 7, 8, 9, 10, 11, 26] [(0, [], .int .i64 z18), (5, [], .bool (decide (n_ < 0))), (6, [], .pointer (some ⟨b25, 0, none⟩)), (7, [], .pointer (some ⟨b28, 0, none⟩)), (8, [], .func (.func 28) ⟨[]⟩ ⟨[.pointer (some ⟨b28, 0, none⟩), .pointer (some ⟨b25, 0, none⟩)]⟩), (9, [], .int .i64 v38), (10, [], .int .i64 v39), (11, [], .int .i64 (Int.tmod v38 10)), (26, [], .int .i64 v39)] [fun _ => (10 : Int) ≠ 0] H46 (by kernel_rfl) ⟨(by show (10 : Int) ≠ 0; decide), trivial⟩ fun _ w48 H49 hb => ?_
                clear H46
                replace hk_b28 := hk_b28.below hb
                replace hk_b25 := hk_b25.below hb
                replace hN := hN.mono hb.size
                replace hB := hB.step hb
                clear hb
                obtain ⟨x50, hx50, hm⟩ := letE hm
                refine s_reg [(.int .i64 v40)] [0, 5, 6, 7, 8, 9, 10, 11, 26, 36] [(0, [], .int .i64 z18), (5, [], .bool (decide (n_ < 0))), (6, [], .pointer (some ⟨b25, 0, none⟩)), (7, [], .pointer (some ⟨b28, 0, none⟩)), (8, [], .func (.func 28) ⟨[]⟩ ⟨[.pointer (some ⟨b28, 0, none⟩), .pointer (some ⟨b25, 0, none⟩)]⟩), (9, [], .int .i64 v38), (10, [], .int .i64 v39), (11, [], .int .i64 (Int.tmod v38 10)), (26, [], .int .i64 v39), (36, [], .bool x50)] [fun wz => (((Int.tmod v38 10) != 0) = false ∧ True → V.at1 ⟨b28, 0, none⟩ (.int .i64 v40) wz)] H49 (by subst hx50; kernel_rfl) ⟨fun h => (fun g0 => hk_b28.at1 rfl) h.1, trivial⟩ fun _ w51 H52 hb => ?_
                clear H49
                replace hk_b28 := hk_b28.below hb
                replace hk_b25 := hk_b25.below hb
                replace hN := hN.mono hb.size
                replace hB := hB.step hb
                clear hb
                refine w_if H52 rfl (fun hc => ?_) (fun hc => ?_)
                · replace hm := bT hc hm
                  refine wl_start ?_
                  refine wl_batch 0 4 [] [0, 5, 6, 7, 8, 9, 10, 26, 37, 40] [(0, [], .int .i64 z18), (5, [], .bool (decide (n_ < 0))), (6, [], .pointer (some ⟨b25, 0, none⟩)), (7, [], .pointer (some ⟨b28, 0, none⟩)), (8, [], .func (.func 28) ⟨[]⟩ ⟨[.pointer (some ⟨b28, 0, none⟩), .pointer (some ⟨b25, 0, none⟩)]⟩), (9, [], .int .i64 v38), (10, [], .int .i64 v39), (26, [], .int .i64 v39), (37, [], .func (.func 28) ⟨[]⟩ ⟨[.pointer (some ⟨b28, 0, none⟩), .pointer (some ⟨b25, 0, none⟩)]⟩), (40, [], .int .u8 (wu8 (w64 (48 + (Int.tmod v38 10)))))] [] H52 (by decide) (by kernel_rfl) trivial fun _ w53 H54 hb => ?_
                  clear H52
                  replace hk_b28 := hk_b28.below hb
                  replace hk_b25 := hk_b25.below hb
                  replace hN := hN.mono hb.size
                  replace hB := hB.step hb
                  clear hb
                  obtain ⟨y57, hy57, hm⟩ := bindE hm
                  refine m_call [0, 5, 6, 7, 8, 9, 10, 26] [(0, [], .int .i64 z18), (5, [], .bool (decide (n_ < 0))), (6, [], .pointer (some ⟨b25, 0, none⟩)), (7, [], .pointer (some ⟨b28, 0, none⟩)), (8, [], .func (.func 28) ⟨[]⟩ ⟨[.pointer (some ⟨b28, 0, none⟩), .pointer (some ⟨b25, 0, none⟩)]⟩), (9, [], .int .i64 v38), (10, [], .int .i64 v39), (26, [], .int .i64 v39)] H54 rfl rfl rfl rfl rfl (fixed_Write_1_ok _ _ _ _ hy57 _ hk_b28 hk_b25 hl_b25 (List.nodup_cons.2 ⟨(nc (hN.dj 0 1 (by decide) _ (List.mem_singleton.2 rfl)) nin0), (List.nodup_cons.2 ⟨nin0, List.nodup_nil⟩)⟩)) fun _ w55 H56 hR => ?_
                  clear H54
                  obtain ⟨hq, hk0, hk1, hl1⟩ := hR
                  replace hB := hB.trans hq (by intro y hy; simp only [List.mem_cons, List.not_mem_nil, or_false] at hy; rcases hy with rfl | rfl; (exact hN.low 0 _ (List.mem_singleton.2 rfl)); (exact hN.low 1 _ (List.mem_singleton.2 rfl)))
                  replace hN := hN.mono hq.size
                  clear hq
                  replace hk_b28 := hk0
                  clear hk0
                  replace hk_b25 := hk1
                  clear hk1
                  replace hl_b25 := hl1
                  clear hl1
                  refine wl_end rfl ?_
                  obtain rfl := someE hm
                  exact ⟨Fr.keep (ks := [0, 5, 6, 7, 8, 9, 10, 26]) H56 (by kernel_rfl), hB, hN, hk_b28, hk_b25, hl_b25⟩
                · replace hm := bF hc hm
                  refine w_skip ?_
                  obtain rfl := someE hm
                  exact ⟨Fr.keep (ks := [0, 5, 6, 7, 8, 9, 10, 26]) H52 (by kernel_rfl), hB, hN, hk_b28, hk_b25, hl_b25⟩
              · rintro _ w68 ⟨H, hB, hN, hk_b28, hk_b25, hl_b25⟩
                refine s_reg [] [0, 5, 6, 7, 8, 9, 10, 26] [(0, [], .int .i64 z18), (5, [], .bool (decide (n_ < 0))), (6, [], .pointer (some ⟨b25, 0, none⟩)), (7, [], .pointer (some ⟨b28, 0, none⟩)), (8, [], .func (.func 28) ⟨[]⟩ ⟨[.pointer (some ⟨b28, 0, none⟩), .pointer (some ⟨b25, 0, none⟩)]⟩), (9, [], .int .i64 (w64 (Int.tdiv v38 10))), (10, [], .int .i64 v39), (26, [], .int .i64 v39)] [fun _ => (10 : Int) ≠ 0] H (by kernel_rfl) ⟨(by show (10 : Int) ≠ 0; decide), trivial⟩ fun _ w58 H59 hb => ?_
                clear H
                replace hk_b28 := hk_b28.below hb
                replace hk_b25 := hk_b25.below hb
                replace hN := hN.mono hb.size
                replace hB := hB.step hb
                clear hb
                obtain ⟨x60, hx60, hm⟩ := letE hm
                refine s_reg [(.int .i64 z47.1)] [0, 5, 6, 7, 8, 9, 26, 49] [(0, [], .int .i64 z18), (5, [], .bool (decide (n_ < 0))), (6, [], .pointer (some ⟨b25, 0, none⟩)), (7, [], .pointer (some ⟨b28, 0, none⟩)), (8, [], .func (.func 28) ⟨[]⟩ ⟨[.pointer (some ⟨b28, 0, none⟩), .pointer (some ⟨b25, 0, none⟩)]⟩), (9, [], .int .i64 (w64 (Int.tdiv v38 10))), (26, [], .int .i64 v39), (49, [], .bool x60)] [fun wz => ((v39 == 2) = true ∧ True → V.at1 ⟨b28, 0, none⟩ (.int .i64 z47.1) wz)] H59 (by subst hx60; kernel_rfl) ⟨fun h => (fun g0 => hk_b28.at1 rfl) h.1, trivial⟩ fun _ w61 H62 hb => ?_
                clear H59
                replace hk_b28 := hk_b28.below hb
                replace hk_b25 := hk_b25.below hb
                replace hN := hN.mono hb.size
                replace hB := hB.step hb
                clear hb
                refine w_if H62 rfl (fun hc => ?_) (fun hc => ?_)
                · replace hm := bT hc hm
                  refine wl_start ?_
                  refine wl_batch 0 1 [] [0, 5, 6, 7, 8, 9, 26, 50] [(0, [], .int .i64 z18), (5, [], .bool (decide (n_ < 0))), (6, [], .pointer (some ⟨b25, 0, none⟩)), (7, [], .pointer (some ⟨b28, 0, none⟩)), (8, [], .func (.func 28) ⟨[]⟩ ⟨[.pointer (some ⟨b28, 0, none⟩), .pointer (some ⟨b25, 0, none⟩)]⟩), (9, [], .int .i64 (w64 (Int.tdiv v38 10))), (26, [], .int .i64 v39), (50, [], .func (.func 28) ⟨[]⟩ ⟨[.pointer (some ⟨b28, 0, none⟩), .pointer (some ⟨b25, 0, none⟩)]⟩)] [] H62 (by decide) (by kernel_rfl) trivial fun _ w63 H64 hb => ?_
                  clear H62
                  replace hk_b28 := hk_b28.below hb
                  replace hk_b25 := hk_b25.below hb
                  replace hN := hN.mono hb.size
                  replace hB := hB.step hb
                  clear hb
                  obtain ⟨y67, hy67, hm⟩ := bindE hm
                  refine m_call [0, 5, 6, 7, 8, 9, 26] [(0, [], .int .i64 z18), (5, [], .bool (decide (n_ < 0))), (6, [], .pointer (some ⟨b25, 0, none⟩)), (7, [], .pointer (some ⟨b28, 0, none⟩)), (8, [], .func (.func 28) ⟨[]⟩ ⟨[.pointer (some ⟨b28, 0, none⟩), .pointer (some ⟨b25, 0, none⟩)]⟩), (9, [], .int .i64 (w64 (Int.tdiv v38 10))), (26, [], .int .i64 v39)] H64 rfl rfl rfl rfl rfl (fixed_Write_1_ok _ _ _ _ hy67 _ hk_b28 hk_b25 hl_b25 (List.nodup_cons.2 ⟨(nc (hN.dj 0 1 (by decide) _ (List.mem_singleton.2 rfl)) nin0), (List.nodup_cons.2 ⟨nin0, List.nodup_nil⟩)⟩)) fun _ w65 H66 hR => ?_
                  clear H64
                  obtain ⟨hq, hk0, hk1, hl1⟩ := hR
                  replace hB := hB.trans hq (by intro y hy; simp only [List.mem_cons, List.not_mem_nil, or_false] at hy; rcases hy with rfl | rfl; (exact hN.low 0 _ (List.mem_singleton.2 rfl)); (exact hN.low 1 _ (List.mem_singleton.2 rfl)))
                  replace hN := hN.mono hq.size
                  clear hq
                  replace hk_b28 := hk0
                  clear hk0
                  replace hk_b25 := hk1
                  clear hk1
                  replace hl_b25 := hl1
                  clear hl1
                  refine wl_end rfl ?_
                  obtain rfl := someE hm
                  exact ⟨Fr.keep (ks := [0, 5, 6, 7, 8, 26, 9]) H66 (by kernel_rfl), hB, hN, hk_b28, hk_b25, hl_b25⟩
                · replace hm := bF hc hm
                  refine w_skip ?_
                  obtain rfl := someE hm
                  exact ⟨Fr.keep (ks := [0, 5, 6, 7, 8, 26, 9]) H62 (by kernel_rfl), hB, hN, hk_b28, hk_b25, hl_b25⟩
            · rintro _ w71 ⟨H, hB, hN, hk_b28, hk_b25, hl_b25⟩
              refine w_reg [] [0, 5, 6, 7, 8, 9, 26] [(0, [], .int .i64 z18), (5, [], .bool (decide (n_ < 0))), (6, [], .pointer (some ⟨b25, 0, none⟩)), (7, [], .pointer (some ⟨b28, 0, none⟩)), (8, [], .func (.func 28) ⟨[]⟩ ⟨[.pointer (some ⟨b28, 0, none⟩), .pointer (some ⟨b25, 0, none⟩)]⟩), (9, [], .int .i64 z44.1), (26, [], .int .i64 (w64 (v39 + 1)))] [] H (by kernel_rfl) trivial fun _ w69 H70 hb => ?_
              clear H
              replace hk_b28 := hk_b28.below hb
              replace hk_b25 := hk_b25.below hb
              replace hN := hN.mono hb.size
              replace hB := hB.step hb
              clear hb
              exact ⟨_, Nat.lt_succ_self _, z44.1, w64 (v39 + 1), z44.2.1, z44.2.2, hm, Fr.keep (ks := [0, 5, 6, 7, 8, 9, 26]) H70 (by kernel_rfl), hB, hN, hk_b28, hk_b25, hl_b25⟩
          · replace hm := bF hc hm
            refine w_exit rfl ?_
            obtain rfl := someE hm
            exact ⟨Fr.keep (ks := [0, 5, 6, 7, 8]) H43 (by kernel_rfl), hB, hN, hk_b28, hk_b25, hl_b25⟩
      · rintro _ w102 ⟨H, hB, hN, hk_b28, hk_b25, hl_b25⟩
        obtain ⟨z73, hz, hm⟩ := bindE hm
        refine w_cut (fun a' w' => Fr 71 [(5, [], .bool (decide (n_ < 0))), (6, [], .pointer (some ⟨b25, 0, none⟩)), (7, [], .pointer (some ⟨b28, 0, none⟩)), (8, [], .func (.func 28) ⟨[]⟩ ⟨[.pointer (some ⟨b28, 0, none⟩), .pointer (some ⟨b25, 0, none⟩)]⟩)] a' ∧ Kp [] w w' ∧ ND w.heap.size [[b28], [b25]] [] w' ∧ Blk w' b28 [.int .i64 z73.1] ∧ Rw .u8 w' b25 z73.2 ∧ ln z73.2 = (20 : Int)) ?_ ?_
        · replace hm := hz
          refine s_reg [] [0, 5, 6, 7, 8] [(0, [], .int .i64 (w64 (Int.tdiv z18 1000))), (5, [], .bool (decide (n_ < 0))), (6, [], .pointer (some ⟨b25, 0, none⟩)), (7, [], .pointer (some ⟨b28, 0, none⟩)), (8, [], .func (.func 28) ⟨[]⟩ ⟨[.pointer (some ⟨b28, 0, none⟩), .pointer (some ⟨b25, 0, none⟩)]⟩)] [fun _ => (1000 : Int) ≠ 0] H (by kernel_rfl) ⟨(by show (1000 : Int) ≠ 0; decide), trivial⟩ fun _ w74 H75 hb => ?_
          clear H
          replace hk_b28 := hk_b28.below hb
          replace hk_b25 := hk_b25.below hb
          replace hN := hN.mono hb.size
          replace hB := hB.step hb
          clear hb
          refine w_block ?_
          refine w_loop (fun m a' w' => ∃ (v76 : Int) (v77 : Int) (v78 : List Int), fixed_Write_L2  m v76 v77 v78 = some _ ∧ Fr 71 [(5, [], .bool (decide (n_ < 0))), (6, [], .pointer (some ⟨b25, 0, none⟩)), (7, [], .pointer (some ⟨b28, 0, none⟩)), (8, [], .func (.func 28) ⟨[]⟩ ⟨[.pointer (some ⟨b28, 0, none⟩), .pointer (some ⟨b25, 0, none⟩)]⟩), (0, [], .int .i64 v76)] a' ∧ Kp [] w w' ∧ ND w.heap.size [[b28], [b25]] [] w' ∧ Blk w' b28 [.int .i64 v77] ∧ Rw .u8 w' b25 v78 ∧ ln v78 = (20 : Int)) ⟨_, w64 (Int.tdiv z18 1000), z35.1, z35.2, hm, Fr.keep (ks := [5, 6, 7, 8, 0]) H75 (by kernel_rfl), hB, hN, hk_b28, hk_b25, hl_b25⟩ ?_
          clear hm H75 hB hN hk_b28 hk_b25 hl_b25
          rintro m _ w88 ⟨v76, v77, v78, hm, H, hB, hN, hk_b28, hk_b25, hl_b25⟩
          cases m with
          | zero => exact noneE hm
          | succ m =>
            rw [fixed_Write_L2] at hm
            refine w_seq ?_
            refine w_block ?_
            refine w_seq ?_
            refine wl_start ?_
            refine wl_batch 0 5 [] [0, 5, 6, 7, 8, 57, 61] [(0, [], .int .i64 v76), (5, [], .bool (decide (n_ < 0))), (6, [], .pointer (some ⟨b25, 0, none⟩)), (7, [], .pointer (some ⟨b28, 0, none⟩)), (8, [], .func (.func 28) ⟨[]⟩ ⟨[.pointer (some ⟨b28, 0, none⟩), .pointer (some ⟨b25, 0, none⟩)]⟩), (57, [], .func (.func 28) ⟨[]⟩ ⟨[.pointer (some ⟨b28, 0, none⟩), .pointer (some ⟨b25, 0, none⟩)]⟩), (61, [], .int .u8 (wu8 (w64 (48 + (Int.tmod v76 10)))))] [fun _ => (10 : Int) ≠ 0] H (by decide) (by kernel_rfl) ⟨(by show (10 : Int) ≠ 0; decide), trivial⟩ fun _ w79 H80 hb => ?_
            clear H
            replace hk_b28 := hk_b28.below hb
            replace hk_b25 := hk_b25.below hb
            replace hN := hN.mono hb.size
            replace hB := hB.step hb
            clear hb
            obtain ⟨y83, hy83, hm⟩ := bindE hm
            refine m_call [0, 5, 6, 7, 8] [(0, [], .int .i64 v76), (5, [], .bool (decide (n_ < 0))), (6, [], .pointer (some ⟨b25, 0, none⟩)), (7, [], .pointer (some ⟨b28, 0, none⟩)), (8, [], .func (.func 28) ⟨[]⟩ ⟨[.pointer (some ⟨b28, 0, none⟩), .pointer (some ⟨b25, 0, none⟩)]⟩)] H80 rfl rfl rfl rfl rfl (fixed_Write_1_ok _ _ _ _ hy83 _ hk_b28 hk_b25 hl_b25 (List.nodup_cons.2 ⟨(nc (hN.dj 0 1 (by decide) _ (List.mem_singleton.2 rfl)) nin0), (List.nodup_cons.2 ⟨nin0, List.nodup_nil⟩)⟩)) fun _ w81 H82 hR => ?_
            clear H80
            obtain ⟨hq, hk0, hk1, hl1⟩ := hR
            replace hB := hB.trans hq (by intro y hy; simp only [List.mem_cons, List.not_mem_nil, or_false] at hy; rcases hy with rfl | rfl; (exact hN.low 0 _ (List.mem_singleton.2 rfl)); (exact hN.low 1 _ (List.mem_singleton.2 rfl)))
            replace hN := hN.mono hq.size
            clear hq
            replace hk_b28 := hk0
            clear hk0
            replace hk_b25 := hk1
            clear hk1
            replace hl_b25 := hl1
            clear hl1
            refine wl_end rfl ?_
            refine s_reg [] [0, 5, 6, 7, 8, 64] [(0, [], .int .i64 v76), (5, [], .bool (decide (n_ < 0))), (6, [], .pointer (some ⟨b25, 0, none⟩)), (7, [], .pointer (some ⟨b28, 0, none⟩)), (8, [], .func (.func 28) ⟨[]⟩ ⟨[.pointer (some ⟨b28, 0, none⟩), .pointer (some ⟨b25, 0, none⟩)]⟩), (64, [], .bool (decide (v76 < 10)))] [] H82 (by kernel_rfl) trivial fun _ w84 H85 hb => ?_
            clear H82
            replace hk_b28 := hk_b28.below hb
            replace hk_b25 := hk_b25.below hb
            replace hN := hN.mono hb.size
            replace hB := hB.step hb
            clear hb
            refine w_if H85 rfl (fun hc => ?_) (fun hc => ?_)
            · replace hm := bT hc hm
              refine w_exit rfl ?_
              obtain rfl := someE hm
              exact ⟨Fr.keep (ks := [5, 6, 7, 8]) H85 (by kernel_rfl), hB, hN, hk_b28, hk_b25, hl_b25⟩
            · replace hm := bF hc hm
              refine w_skip ?_
              refine w_reg [] [0, 5, 6, 7, 8] [(0, [], .int .i64 (w64 (Int.tdiv v76 10))), (5, [], .bool (decide (n_ < 0))), (6, [], .pointer (some ⟨b25, 0, none⟩)), (7, [], .pointer (some ⟨b28, 0, none⟩)), (8, [], .func (.func 28) ⟨[]⟩ ⟨[.pointer (some ⟨b28, 0, none⟩), .pointer (some ⟨b25, 0, none⟩)]⟩)] [fun _ => (10 : Int) ≠ 0] H85 (by kernel_rfl) ⟨(by show (10 : Int) ≠ 0; decide), trivial⟩ fun _ w86 H87 hb => ?_
              clear H85
              replace hk_b28 := hk_b28.below hb
              replace hk_b25 := hk_b25.below hb
              replace hN := hN.mono hb.size
              replace hB := hB.step hb
              clear hb
              exact ⟨_, Nat.lt_succ_self _, w64 (Int.tdiv v76 10), y83.1, y83.2, hm, Fr.keep (ks := [5, 6, 7, 8, 0]) H87 (by kernel_rfl), hB, hN, hk_b28, hk_b25, hl_b25⟩
        · rintro _ w101 ⟨H, hB, hN, hk_b28, hk_b25, hl_b25⟩
          obtain ⟨z89, hz, hm⟩ := bindE hm
          refine w_cut (fun a' w' => Fr 71 [(6, [], .pointer (some ⟨b25, 0, none⟩)), (7, [], .pointer (some ⟨b28, 0, none⟩))] a' ∧ Kp [] w w' ∧ ND w.heap.size [[b28], [b25]] [] w' ∧ Blk w' b28 [.int .i64 z89.1] ∧ Rw .u8 w' b25 z89.2 ∧ ln z89.2 = (20 : Int)) ?_ ?_
          · replace hm := hz
            refine s_reg [] [6, 7, 8, 65] [(6, [], .pointer (some ⟨b25, 0, none⟩)), (7, [], .pointer (some ⟨b28, 0, none⟩)), (8, [], .func (.func 28) ⟨[]⟩ ⟨[.pointer (some ⟨b28, 0, none⟩), .pointer (some ⟨b25, 0, none⟩)]⟩), (65, [], .bool (decide (n_ < 0)))] [] H (by kernel_rfl) trivial fun _ w90 H91 hb => ?_
            clear H
            replace hk_b28 := hk_b28.below hb
            replace hk_b25 := hk_b25.below hb
            replace hN := hN.mono hb.size
            replace hB := hB.step hb
            clear hb
            refine w_if H91 rfl (fun hc => ?_) (fun hc => ?_)
            · replace hm := bT hc hm
              refine wl_start ?_
              refine wl_batch 0 1 [] [6, 7, 66] [(6, [], .pointer (some ⟨b25, 0, none⟩)), (7, [], .pointer (some ⟨b28, 0, none⟩)), (66, [], .func (.func 28) ⟨[]⟩ ⟨[.pointer (some ⟨b28, 0, none⟩), .pointer (some ⟨b25, 0, none⟩)]⟩)] [] H91 (by decide) (by kernel_rfl) trivial fun _ w92 H93 hb => ?_
              clear H91
              replace hk_b28 := hk_b28.below hb
              replace hk_b25 := hk_b25.below hb
              replace hN := hN.mono hb.size
              replace hB := hB.step hb
              clear hb
              obtain ⟨y96, hy96, hm⟩ := bindE hm
              refine m_call [6, 7] [(6, [], .pointer (some ⟨b25, 0, none⟩)), (7, [], .pointer (some ⟨b28, 0, none⟩))] H93 rfl rfl rfl rfl rfl (fixed_Write_1_ok _ _ _ _ hy96 _ hk_b28 hk_b25 hl_b25 (List.nodup_cons.2 ⟨(nc (hN.dj 0 1 (by decide) _ (List.mem_singleton.2 rfl)) nin0), (List.nodup_cons.2 ⟨nin0, List.nodup_nil⟩)⟩)) fun _ w94 H95 hR => ?_
              clear H93
              obtain ⟨hq, hk0, hk1, hl1⟩ := hR
              replace hB := hB.trans hq (by intro y hy; simp only [List.mem_cons, List.not_mem_nil, or_false] at hy; rcases hy with rfl | rfl; (exact hN.low 0 _ (List.mem_singleton.2 rfl)); (exact hN.low 1 _ (List.mem_singleton.2 rfl)))
              replace hN := hN.mono hq.size
              clear hq
              replace hk_b28 := hk0
              clear hk0
              replace hk_b25 := hk1
              clear hk1
              replace hl_b25 := hl1
              clear hl1
              refine wl_end rfl ?_
              obtain rfl := someE hm
              exact ⟨Fr.keep (ks := [6, 7]) H95 (by kernel_rfl), hB, hN, hk_b28, hk_b25, hl_b25⟩
            · replace hm := bF hc hm
              refine w_skip ?_
              obtain rfl := someE hm
              exact ⟨Fr.keep (ks := [6, 7]) H91 (by kernel_rfl), hB, hN, hk_b28, hk_b25, hl_b25⟩
          · rintro _ w100 ⟨H, hB, hN, hk_b28, hk_b25, hl_b25⟩
            obtain ⟨ho97, hm⟩ := chkE hm
            refine s_reg [(.int .i64 z89.1), (.string ⟨⟨toB (z89.2.drop (z89.1).toNat)⟩⟩)] [2, 3] [(2, [], .string ⟨⟨toB (z89.2.drop (z89.1).toNat)⟩⟩), (3, [], .int .i64 0)] [fun wz => V.at1 ⟨b28, 0, none⟩ (.int .i64 z89.1) wz, fun _ => 0 ≤ z89.1 ∧ z89.1 < 20, fun wz => ∀ w', Below wz.heap.size wz w' → (convert 54 9 (.slice (some ⟨b25, 0 + (z89.1).toNat * 1, none⟩) (20 - (z89.1).toNat) (20 - (z89.1).toNat))).run Try.prog w' = .ok (.string ⟨⟨toB (z89.2.drop (z89.1).toNat)⟩⟩) w'] H (by kernel_rfl) ⟨(hk_b28.at1 rfl), ho97, (conv_rowd (E := 5) (by kernel_rfl) (by kernel_rfl) (by kernel_rfl) hk_b25 hl_b25), trivial⟩ fun _ w98 H99 hb => ?_
            clear H
            replace hk_b28 := hk_b28.below hb
            replace hk_b25 := hk_b25.below hb
            replace hN := hN.mono hb.size
            replace hB := hB.step hb
            clear hb
            clear hk_b28
            clear hk_b25 hl_b25
            replace hN : ND w.heap.size [] [] _ := hN.pick [false, false]
            refine w_ret ?_
            obtain rfl := someE hm
            exact ret2 H99 rfl rfl rfl ⟨rfl, hB.below⟩
theorem fixed_Write_ok  (n_ : Int) (r : Str × Int) (hm : fixed_Write n_ = some r) : Ret Try.prog 26 ⟨[.int .i64 n_]⟩ (.tuple ⟨[.string ⟨⟨r.1⟩⟩, .int .i64 r.2]⟩) := ret_of (Try.call26 _) (fixed_Write_w n_ r hm)

def law06_writes (n_ : Int) (want : Str) : Option (Bool) :=
  Option.bind (fixed_Write n_) fun y3 =>
  some (cond (y3.2 == 0) (y3.1 == want) false)
theorem law06_writes_w  (n_ : Int) (want : Str) (r : Bool) (hm : law06_writes n_ want = some r) (w : World)  : Calls Try.prog 22 ⟨[.int .i64 n_, .string ⟨⟨want⟩⟩]⟩ w (V.Pure (.bool r) w) := by
  rw [law06_writes] at hm
  refine calls_entry Try.func22 rfl Try.ntmps22 rfl fun _ H => ?_
  have hB := Kp.refl [] w
  have hN : ND w.heap.size [] [] w := ND.start (by simp) (by intro b hb; simp at hb)
  refine s_reg [] [0, 1] [(0, [], .int .i64 n_), (1, [], .string ⟨⟨want⟩⟩)] [] H (by kernel_rfl) trivial fun _ w1 H2 hb => ?_
  clear H
  replace hN := hN.mono hb.size
  replace hB := hB.step hb
  clear hb
  obtain ⟨y3, hy3, hm⟩ := bindE hm
  refine s_reg [(.tuple ⟨[.string ⟨⟨y3.1⟩⟩, .int .i64 y3.2]⟩)] [1, 5, 6] [(1, [], .string ⟨⟨want⟩⟩), (5, [], .string ⟨⟨y3.1⟩⟩), (6, [], .int .i64 y3.2)] [fun wz => RetB Try.prog 26 ⟨[.int .i64 n_]⟩ (.tuple ⟨[.string ⟨⟨y3.1⟩⟩, .int .i64 y3.2]⟩) wz] H2 (by kernel_rfl) ⟨(fixed_Write_ok _ _ hy3).b, trivial⟩ fun _ w4 H5 hb => ?_
  clear H2
  replace hN := hN.mono hb.size
  replace hB := hB.step hb
  clear hb
  refine s_reg [] [4] [(4, [], .bool (cond (y3.2 == 0) (y3.1 == want) false))] [] H5 (by kernel_rfl) trivial fun _ w6 H7 hb => ?_
  clear H5
  replace hN := hN.mono hb.size
  replace hB := hB.step hb
  clear hb
  refine w_ret ?_
  obtain rfl := someE hm
  exact ret1 H7 rfl rfl ⟨rfl, hB.below⟩
theorem law06_writes_ok  (n_ : Int) (want : Str) (r : Bool) (hm : law06_writes n_ want = some r) : Ret Try.prog 22 ⟨[.int .i64 n_, .string ⟨⟨want⟩⟩]⟩ (.bool r) := ret_of (Try.call22 _) (law06_writes_w n_ want r hm)

def law06_times (a_ : Int) (b : Int) (want : Int) : Option (Bool) :=
  Option.bind (fixed_Mul a_ b) fun y3 =>
  some (cond (y3.2 == 0) (y3.1 == want) false)
theorem law06_times_w  (a_ : Int) (b : Int) (want : Int) (r : Bool) (hm : law06_times a_ b want = some r) (w : World)  : Calls Try.prog 23 ⟨[.int .i64 a_, .int .i64 b, .int .i64 want]⟩ w (V.Pure (.bool r) w) := by
  rw [law06_times] at hm
  refine calls_entry Try.func23 rfl Try.ntmps23 rfl fun _ H => ?_
  have hB := Kp.refl [] w
  have hN : ND w.heap.size [] [] w := ND.start (by simp) (by intro b hb; simp at hb)
  refine s_reg [] [0, 1, 2] [(0, [], .int .i64 a_), (1, [], .int .i64 b), (2, [], .int .i64 want)] [] H (by kernel_rfl) trivial fun _ w1 H2 hb => ?_
  clear H
  replace hN := hN.mono hb.size
  replace hB := hB.step hb
  clear hb
  obtain ⟨y3, hy3, hm⟩ := bindE hm
  refine s_reg [(.tuple ⟨[.int .i64 y3.1, .int .i64 y3.2]⟩)] [2, 7, 8] [(2, [], .int .i64 want), (7, [], .int .i64 y3.1), (8, [], .int .i64 y3.2)] [fun wz => RetB Try.prog 9 ⟨[.int .i64 a_, .int .i64 b]⟩ (.tuple ⟨[.int .i64 y3.1, .int .i64 y3.2]⟩) wz] H2 (by kernel_rfl) ⟨(fixed_Mul_ok _ _ _ hy3).b, trivial⟩ fun _ w4 H5 hb => ?_
  clear H2
  replace hN := hN.mono hb.size
  replace hB := hB.step hb
  clear hb
  refine s_reg [] [6] [(6, [], .bool (cond (y3.2 == 0) (y3.1 == want) false))] [] H5 (by kernel_rfl) trivial fun _ w6 H7 hb => ?_
  clear H5
  replace hN := hN.mono hb.size
  replace hB := hB.step hb
  clear hb
  refine w_ret ?_
  obtain rfl := someE hm
  exact ret1 H7 rfl rfl ⟨rfl, hB.below⟩
theorem law06_times_ok  (a_ : Int) (b : Int) (want : Int) (r : Bool) (hm : law06_times a_ b want = some r) : Ret Try.prog 23 ⟨[.int .i64 a_, .int .i64 b, .int .i64 want]⟩ (.bool r) := ret_of (Try.call23 _) (law06_times_w a_ b want r hm)

def law06_alive  : Option (Bool) :=
  Option.bind (fixed_Sum [1000000000000, 5, (-5)]) fun y7 =>
  Option.bind (law06_writes 1500 [49, 46, 53]) fun y10 =>
  Option.bind (cond y10 (law06_writes (-20) [45, 48, 46, 48, 50]) (some default)) fun y11 =>
  Option.bind (cond (cond y10 y11 false) (law06_writes 0 [48]) (some default)) fun y12 =>
  Option.bind (cond (cond (cond y10 y11 false) y12 false) (law06_times 1500 2500 3750) (some default)) fun y13 =>
  lt (cond (cond (cond y10 y11 false) y12 false) y13 false) fun x14 =>
  Option.bind (cond x14 (law06_times 1 1 0) (some default)) fun y15 =>
  Option.bind (cond (cond x14 y15 false) (law06_times 1000000000000 2000 1000000000000) (some default)) fun y16 =>
  lt (cond (cond (cond x14 y15 false) y16 false) (y7.2 == 0) false) fun x17 =>
  some (cond x17 (y7.1 == 999999999995) false)
theorem law06_alive_w   (r : Bool) (hm : law06_alive = some r) (w : World)  : Calls Try.prog 14 ⟨[]⟩ w (V.Pure (.bool r) w) := by
  rw [law06_alive] at hm
  refine calls_entry Try.func14 rfl Try.ntmps14 rfl fun _ H => ?_
  have hB := Kp.refl [] w
  have hN : ND w.heap.size [] [] w := ND.start (by simp) (by intro b hb; simp at hb)
  refine s_reg [] [] [] [] H (by kernel_rfl) trivial fun _ w1 H2 hb => ?_
  clear H
  replace hN := hN.mono hb.size
  replace hB := hB.step hb
  clear hb
  refine w_seq ?_
  refine wl_start ?_
  refine m_buildO (enc := (encI .i64)) (E := 2) (z := 1) (zv := .int .i64 0) (fun _ => rfl) [.int .i64 1000000000000, .int .i64 5, .int .i64 (-5)] ([1000000000000, 5, (-5)] : List (Int)) [4] [] _ H2 rfl rfl rfl (by kernel_rfl) (by kernel_rfl) (by kernel_rfl) (by kernel_rfl) (by kernel_rfl) rfl rfl rfl (fun _ => rfl) fun _ w3 a5 H4 hq ha ho_o6 => ?_
  clear H2
  replace hB := hB.step0 hq
  replace hN : ND w.heap.size [abl a5] [] _ := hN.birth hq.size (abl a5) (by rw [ha]; simp) ho_o6.lt
  clear hq ha
  obtain ⟨y7, hy7, hm⟩ := bindE hm
  refine wl_batch 1 7 [(.tuple ⟨[.int .i64 y7.1, .int .i64 y7.2]⟩)] [1, 2] [(1, [], .int .i64 y7.1), (2, [], .int .i64 y7.2)] [fun wz => RetB Try.prog 7 ⟨[.slice a5 3 3]⟩ (.tuple ⟨[.int .i64 y7.1, .int .i64 y7.2]⟩) wz] H4 (by decide) (by kernel_rfl) ⟨(fixed_Sum_ok _ _ hy7 _ (Ow.sl (enc := (encI .i64)) (z := 1) (fun _ => rfl) ho_o6)), trivial⟩ fun _ w8 H9 hb => ?_
  clear H4
  replace ho_o6 := ho_o6.below hb
  replace hN := hN.mono hb.size
  replace hB := hB.step hb
  clear hb
  refine wl_end rfl ?_
  clear ho_o6
  replace hN : ND w.heap.size [] [] _ := hN.pick [false]
  obtain ⟨y10, hy10, hm⟩ := bindE hm
  obtain ⟨y11, hy11, hm⟩ := bindE hm
  obtain ⟨y12, hy12, hm⟩ := bindE hm
  obtain ⟨y13, hy13, hm⟩ := bindE hm
  obtain ⟨x14, hx14, hm⟩ := letE hm
  obtain ⟨y15, hy15, hm⟩ := bindE hm
  obtain ⟨y16, hy16, hm⟩ := bindE hm
  obtain ⟨x17, hx17, hm⟩ := letE hm
  refine s_reg [(.bool y10), (.bool y11), (.bool y12), (.bool y13), (.bool y15), (.bool y16)] [0] [(0, [], .bool (cond x17 (y7.1 == 999999999995) false))] [fun wz => RetB Try.prog 22 ⟨[.int .i64 1500, .string ⟨⟨[49, 46, 53]⟩⟩]⟩ (.bool y10) wz, fun wz => (y10 = true ∧ True → RetB Try.prog 22 ⟨[.int .i64 (-20), .string ⟨⟨[45, 48, 46, 48, 50]⟩⟩]⟩ (.bool y11) wz), fun wz => ((cond y10 y11 false) = true ∧ True → RetB Try.prog 22 ⟨[.int .i64 0, .string ⟨⟨[48]⟩⟩]⟩ (.bool y12) wz), fun wz => ((cond (cond y10 y11 false) y12 false) = true ∧ True → RetB Try.prog 23 ⟨[.int .i64 1500, .int .i64 2500, .int .i64 3750]⟩ (.bool y13) wz), fun wz => (x14 = true ∧ True → RetB Try.prog 23 ⟨[.int .i64 1, .int .i64 1, .int .i64 0]⟩ (.bool y15) wz), fun wz => ((cond x14 y15 false) = true ∧ True → RetB Try.prog 23 ⟨[.int .i64 1000000000000, .int .i64 2000, .int .i64 1000000000000]⟩ (.bool y16) wz)] H9 (by subst hx14 hx17; kernel_rfl) ⟨(law06_writes_ok _ _ _ hy10).b, fun hg => (law06_writes_ok _ _ _ (bT (hg.1) hy11)).b, fun hg => (law06_writes_ok _ _ _ (bT (hg.1) hy12)).b, fun hg => (law06_times_ok _ _ _ _ (bT (hg.1) hy13)).b, fun hg => (law06_times_ok _ _ _ _ (bT (hg.1) hy15)).b, fun hg => (law06_times_ok _ _ _ _ (bT (hg.1) hy16)).b, trivial⟩ fun _ w18 H19 hb => ?_
  clear H9
  replace hN := hN.mono hb.size
  replace hB := hB.step hb
  clear hb
  refine w_ret ?_
  obtain rfl := someE hm
  exact ret1 H19 rfl rfl ⟨rfl, hB.below⟩
theorem law06_alive_ok   (r : Bool) (hm : law06_alive = some r) : Ret Try.prog 14 ⟨[]⟩ (.bool r) := ret_of (Try.call14 _) (law06_alive_w  r hm)

def law06_FixedOrder (a_ : Int) (b : Int) (c : Int) : Option (Bool) :=
  lt (cond (cond (!(r06_Is a_)) true (!(r06_Is b))) true (!(r06_Is c))) fun x3 =>
  cond x3 (
  Option.bind (law06_alive) fun y6 =>
  some y6) (
  Option.bind (fixed_Mul a_ b) fun y9 =>
  Option.bind (fixed_Mul b a_) fun y12 =>
  Option.bind (fixed_Mul c b) fun y15 =>
  Option.bind (fixed_Mul (w64 (0 - a_)) b) fun y18 =>
  lt (cond (cond (y9.2 != 0) true (y12.2 != 0)) true (y15.2 != 0)) fun x21 =>
  lt (cond (cond x21 true (y18.2 != 0)) true (y9.1 != y12.1)) fun x22 =>
  lt (cond x22 true (y18.1 != (w64 (0 - y9.1)))) fun x23 =>
  lt (cond (cond x23 true (!(r06_Is y9.1))) true (cond (decide (0 < y9.1)) (!((decide (0 < a_)) == (decide (0 < b)))) false)) fun x24 =>
  cond x24 (
  some false) (
  lt (cond (decide (0 ≤ b)) (cond (cond (decide (a_ ≤ c)) (decide (y15.1 < y9.1)) false) true (cond (decide (c ≤ a_)) (decide (y9.1 < y15.1)) false)) false) fun x29 =>
  cond x29 (
  some false) (
  Option.bind (
  lt (cond (decide ((-1000000000) < a_)) (decide (a_ < 1000000000)) false) fun x35 =>
  lt (cond x35 (decide ((-1000000000) < b)) false) fun x36 =>
  cond (cond x36 (decide (b < 1000000000)) false) (
  lt (w64 ((w64 (a_ * b)) - (w64 (1000 * y9.1)))) fun x41 =>
  lt (cond (decide (x41 ≤ (-1000))) true (decide (1000 ≤ x41))) fun x44 =>
  lt (cond x44 true (cond (x41 != 0) (!((decide (x41 < 0)) == (decide ((w64 (a_ * b)) < 0)))) false)) fun x45 =>
  cond x45 (
  lt (cond (y9.1 == 1000000000000) true (y9.1 == (-1000000000000))) fun x48 =>
  Option.bind (cond x48 (law06_alive) (some default)) fun y51 =>
  some (.inl (cond x48 y51 false))) (
  some (.inr ()))) (
  some (.inr ()))) fun (z34 : Sum (Bool) (Unit)) => sumK z34 fun s_z34 =>
  Option.bind (law06_alive) fun y54 =>
  some y54)))
theorem law06_FixedOrder_w  (a_ : Int) (b : Int) (c : Int) (r : Bool) (hm : law06_FixedOrder a_ b c = some r) (w : World)  : Calls Try.prog 4 ⟨[.int .i64 a_, .int .i64 b, .int .i64 c]⟩ w (V.Pure (.bool r) w) := by
  rw [law06_FixedOrder] at hm
  refine calls_entry Try.func4 rfl Try.ntmps4 rfl fun _ H => ?_
  have hB := Kp.refl [] w
  have hN : ND w.heap.size [] [] w := ND.start (by simp) (by intro b hb; simp at hb)
  refine s_reg [] [0, 1, 2] [(0, [], .int .i64 a_), (1, [], .int .i64 b), (2, [], .int .i64 c)] [] H (by kernel_rfl) trivial fun _ w1 H2 hb => ?_
  clear H
  replace hN := hN.mono hb.size
  replace hB := hB.step hb
  clear hb
  refine w_seq ?_
  obtain ⟨x3, hx3, hm⟩ := letE hm
  refine s_reg [(.bool (r06_Is a_)), (.bool (r06_Is b)), (.bool (r06_Is c))] [0, 1, 2, 30] [(0, [], .int .i64 a_), (1, [], .int .i64 b), (2, [], .int .i64 c), (30, [], .bool x3)] [fun wz => RetB Try.prog 13 ⟨[.int .i64 a_]⟩ (.bool (r06_Is a_)) wz, fun wz => ((!(r06_Is a_)) = false ∧ True → RetB Try.prog 13 ⟨[.int .i64 b]⟩ (.bool (r06_Is b)) wz), fun wz => ((cond (!(r06_Is a_)) true (!(r06_Is b))) = false ∧ True → RetB Try.prog 13 ⟨[.int .i64 c]⟩ (.bool (r06_Is c)) wz)] H2 (by subst hx3; kernel_rfl) ⟨(r06_Is_ok _).b, fun _ => (r06_Is_ok _).b, fun _ => (r06_Is_ok _).b, trivial⟩ fun _ w4 H5 hb => ?_
  clear H2
  replace hN := hN.mono hb.size
  replace hB := hB.step hb
  clear hb
  refine w_if H5 rfl (fun hc => ?_) (fun hc => ?_)
  · replace hm := bT hc hm
    obtain ⟨y6, hy6, hm⟩ := bindE hm
    refine s_reg [(.bool y6)] [6] [(6, [], .bool y6)] [fun wz => RetB Try.prog 14 ⟨[]⟩ (.bool y6) wz] H5 (by kernel_rfl) ⟨(law06_alive_ok _ hy6).b, trivial⟩ fun _ w7 H8 hb => ?_
    clear H5
    replace hN := hN.mono hb.size
    replace hB := hB.step hb
    clear hb
    refine w_ret ?_
    obtain rfl := someE hm
    exact ret1 H8 rfl rfl ⟨rfl, hB.below⟩
  · replace hm := bF hc hm
    refine w_skip ?_
    obtain ⟨y9, hy9, hm⟩ := bindE hm
    refine s_reg [(.tuple ⟨[.int .i64 y9.1, .int .i64 y9.2]⟩)] [0, 1, 2, 7, 8] [(0, [], .int .i64 a_), (1, [], .int .i64 b), (2, [], .int .i64 c), (7, [], .int .i64 y9.1), (8, [], .int .i64 y9.2)] [fun wz => RetB Try.prog 9 ⟨[.int .i64 a_, .int .i64 b]⟩ (.tuple ⟨[.int .i64 y9.1, .int .i64 y9.2]⟩) wz] H5 (by kernel_rfl) ⟨(fixed_Mul_ok _ _ _ hy9).b, trivial⟩ fun _ w10 H11 hb => ?_
    clear H5
    replace hN := hN.mono hb.size
    replace hB := hB.step hb
    clear hb
    obtain ⟨y12, hy12, hm⟩ := bindE hm
    refine s_reg [(.tuple ⟨[.int .i64 y12.1, .int .i64 y12.2]⟩)] [0, 1, 2, 7, 8, 9, 10] [(0, [], .int .i64 a_), (1, [], .int .i64 b), (2, [], .int .i64 c), (7, [], .int .i64 y9.1), (8, [], .int .i64 y9.2), (9, [], .int .i64 y12.1), (10, [], .int .i64 y12.2)] [fun wz => RetB Try.prog 9 ⟨[.int .i64 b, .int .i64 a_]⟩ (.tuple ⟨[.int .i64 y12.1, .int .i64 y12.2]⟩) wz] H11 (by kernel_rfl) ⟨(fixed_Mul_ok _ _ _ hy12).b, trivial⟩ fun _ w13 H14 hb => ?_
    clear H11
    replace hN := hN.mono hb.size
    replace hB := hB.step hb
    clear hb
    obtain ⟨y15, hy15, hm⟩ := bindE hm
    refine s_reg [(.tuple ⟨[.int .i64 y15.1, .int .i64 y15.2]⟩)] [0, 1, 2, 7, 8, 9, 10, 11, 12] [(0, [], .int .i64 a_), (1, [], .int .i64 b), (2, [], .int .i64 c), (7, [], .int .i64 y9.1), (8, [], .int .i64 y9.2), (9, [], .int .i64 y12.1), (10, [], .int .i64 y12.2), (11, [], .int .i64 y15.1), (12, [], .int .i64 y15.2)] [fun wz => RetB Try.prog 9 ⟨[.int .i64 c, .int .i64 b]⟩ (.tuple ⟨[.int .i64 y15.1, .int .i64 y15.2]⟩) wz] H14 (by kernel_rfl) ⟨(fixed_Mul_ok _ _ _ hy15).b, trivial⟩ fun _ w16 H17 hb => ?_
    clear H14
    replace hN := hN.mono hb.size
    replace hB := hB.step hb
    clear hb
    obtain ⟨y18, hy18, hm⟩ := bindE hm
    refine s_reg [(.tuple ⟨[.int .i64 y18.1, .int .i64 y18.2]⟩)] [0, 1, 2, 7, 8, 9, 10, 11, 12, 13, 14] [(0, [], .int .i64 a_), (1, [], .int .i64 b), (2, [], .int .i64 c), (7, [], .int .i64 y9.1), (8, [], .int .i64 y9.2), (9, [], .int .i64 y12.1), (10, [], .int .i64 y12.2), (11, [], .int .i64 y15.1), (12, [], .int .i64 y15.2), (13, [], .int .i64 y18.1), (14, [], .int .i64 y18.2)] [fun wz => RetB Try.prog 9 ⟨[.int .i64 (w64 (0 - a_)), .int .i64 b]⟩ (.tuple ⟨[.int .i64 y18.1, .int .i64 y18.2]⟩) wz] H17 (by kernel_rfl) ⟨(fixed_Mul_ok _ _ _ hy18).b, trivial⟩ fun _ w19 H20 hb => ?_
    clear H17
    replace hN := hN.mono hb.size
    replace hB := hB.step hb
    clear hb
    refine w_seq ?_
    obtain ⟨x21, hx21, hm⟩ := letE hm
    obtain ⟨x22, hx22, hm⟩ := letE hm
    obtain ⟨x23, hx23, hm⟩ := letE hm
    obtain ⟨x24, hx24, hm⟩ := letE hm
    refine s_reg [(.bool (r06_Is y9.1))] [0, 1, 2, 7, 11, 97] [(0, [], .int .i64 a_), (1, [], .int .i64 b), (2, [], .int .i64 c), (7, [], .int .i64 y9.1), (11, [], .int .i64 y15.1), (97, [], .bool x24)] [fun wz => (x23 = false ∧ True → RetB Try.prog 13 ⟨[.int .i64 y9.1]⟩ (.bool (r06_Is y9.1)) wz)] H20 (by subst hx21 hx22 hx23 hx24; kernel_rfl) ⟨fun _ => (r06_Is_ok _).b, trivial⟩ fun _ w25 H26 hb => ?_
    clear H20
    replace hN := hN.mono hb.size
    replace hB := hB.step hb
    clear hb
    refine w_if H26 rfl (fun hc => ?_) (fun hc => ?_)
    · replace hm := bT hc hm
      refine s_reg [] [6] [(6, [], .bool false)] [] H26 (by kernel_rfl) trivial fun _ w27 H28 hb => ?_
      clear H26
      replace hN := hN.mono hb.size
      replace hB := hB.step hb
      clear hb
      refine w_ret ?_
      obtain rfl := someE hm
      exact ret1 H28 rfl rfl ⟨rfl, hB.below⟩
    · replace hm := bF hc hm
      refine w_skip ?_
      refine w_seq ?_
      obtain ⟨x29, hx29, hm⟩ := letE hm
      refine s_reg [] [0, 1, 7, 119] [(0, [], .int .i64 a_), (1, [], .int .i64 b), (7, [], .int .i64 y9.1), (119, [], .bool x29)] [] H26 (by subst hx29; kernel_rfl) trivial fun _ w30 H31 hb => ?_
      clear H26
      replace hN := hN.mono hb.size
      replace hB := hB.step hb
      clear hb
      refine w_if H31 rfl (fun hc => ?_) (fun hc => ?_)
      · replace hm := bT hc hm
        refine s_reg [] [6] [(6, [], .bool false)] [] H31 (by kernel_rfl) trivial fun _ w32 H33 hb => ?_
        clear H31
        replace hN := hN.mono hb.size
        replace hB := hB.step hb
        clear hb
        refine w_ret ?_
        obtain rfl := someE hm
        exact ret1 H33 rfl rfl ⟨rfl, hB.below⟩
      · replace hm := bF hc hm
        refine w_skip ?_
        obtain ⟨z34, hz, hm_z34⟩ := bindE hm
        refine w_cut (fun a' w' => ∃ s_z34 : Unit, z34 = Sum.inr s_z34 ∧ Fr 169 [] a' ∧ Kp [] w w' ∧ ND w.heap.size [] [] w') ?_ ?_
        · replace hm := hz
          obtain ⟨x35, hx35, hm⟩ := letE hm
          obtain ⟨x36, hx36, hm⟩ := letE hm
          refine s_reg [] [0, 1, 7, 133] [(0, [], .int .i64 a_), (1, [], .int .i64 b), (7, [], .int .i64 y9.1), (133, [], .bool (cond x36 (decide (b < 1000000000)) false))] [] H31 (by subst hx35 hx36; kernel_rfl) trivial fun _ w37 H38 hb => ?_
          clear H31
          replace hN := hN.mono hb.size
          replace hB := hB.step hb
          clear hb
          refine w_if H38 rfl (fun hc => ?_) (fun hc => ?_)
          · replace hm := bT hc hm
            refine s_reg [] [7, 15] [(7, [], .int .i64 y9.1), (15, [], .int .i64 (w64 (a_ * b)))] [] H38 (by kernel_rfl) trivial fun _ w39 H40 hb => ?_
            clear H38
            replace hN := hN.mono hb.size
            replace hB := hB.step hb
            clear hb
            obtain ⟨x41, hx41, hm⟩ := letE hm
            refine s_reg [] [7, 15, 16] [(7, [], .int .i64 y9.1), (15, [], .int .i64 (w64 (a_ * b))), (16, [], .int .i64 x41)] [] H40 (by subst hx41; kernel_rfl) trivial fun _ w42 H43 hb => ?_
            clear H40
            replace hN := hN.mono hb.size
            replace hB := hB.step hb
            clear hb
            obtain ⟨x44, hx44, hm⟩ := letE hm
            obtain ⟨x45, hx45, hm⟩ := letE hm
            refine s_reg [] [7, 157] [(7, [], .int .i64 y9.1), (157, [], .bool x45)] [] H43 (by subst hx44 hx45; kernel_rfl) trivial fun _ w46 H47 hb => ?_
            clear H43
            replace hN := hN.mono hb.size
            replace hB := hB.step hb
            clear hb
            refine w_if H47 rfl (fun hc => ?_) (fun hc => ?_)
            · replace hm := bT hc hm
              obtain ⟨x48, hx48, hm⟩ := letE hm
              refine s_reg [] [17] [(17, [], .bool x48)] [] H47 (by subst hx48; kernel_rfl) trivial fun _ w49 H50 hb => ?_
              clear H47
              replace hN := hN.mono hb.size
              replace hB := hB.step hb
              clear hb
              obtain ⟨y51, hy51, hm⟩ := bindE hm
              refine s_reg [(.bool y51)] [6] [(6, [], .bool (cond x48 y51 false))] [fun wz => (x48 = true ∧ True → RetB Try.prog 14 ⟨[]⟩ (.bool y51) wz)] H50 (by kernel_rfl) ⟨fun hg => (law06_alive_ok _ (bT (hg.1) hy51)).b, trivial⟩ fun _ w52 H53 hb => ?_
              clear H50
              replace hN := hN.mono hb.size
              replace hB := hB.step hb
              clear hb
              refine w_ret ?_
              obtain rfl := someE hm
              have hm := hm_z34
              obtain rfl := someE hm
              exact ret1 H53 rfl rfl ⟨rfl, hB.below⟩
            · replace hm := bF hc hm
              refine w_skip ?_
              obtain rfl := someE hm
              exact ⟨_, rfl, Fr.keep (ks := []) H47 (by kernel_rfl), hB, hN⟩
          · replace hm := bF hc hm
            refine w_skip ?_
            obtain rfl := someE hm
            exact ⟨_, rfl, Fr.keep (ks := []) H38 (by kernel_rfl), hB, hN⟩
        · rintro _ w57 ⟨s_z34, hz, H, hB, hN⟩
          subst hz
          replace hm := sumR hm_z34
          obtain ⟨y54, hy54, hm⟩ := bindE hm
          refine s_reg [(.bool y54)] [6] [(6, [], .bool y54)] [fun wz => RetB Try.prog 14 ⟨[]⟩ (.bool y54) wz] H (by kernel_rfl) ⟨(law06_alive_ok _ hy54).b, trivial⟩ fun _ w55 H56 hb => ?_
          clear H
          replace hN := hN.mono hb.size
          replace hB := hB.step hb
          clear hb
          refine w_ret ?_
          obtain rfl := someE hm
          exact ret1 H56 rfl rfl ⟨rfl, hB.below⟩
theorem law06_FixedOrder_ok  (a_ : Int) (b : Int) (c : Int) (r : Bool) (hm : law06_FixedOrder a_ b c = some r) : Ret Try.prog 4 ⟨[.int .i64 a_, .int .i64 b, .int .i64 c]⟩ (.bool r) := ret_of (Try.call4 _) (law06_FixedOrder_w a_ b c r hm)

def law06_FixedParts (a_ : Int) (b : Int) : Option (Bool) :=
  cond (cond (!(r06_Is a_)) true (!(r06_Is b))) (
  Option.bind (law06_alive) fun y5 =>
  some y5) (
  Option.bind (fixed_Mul a_ 1000) fun y8 =>
  Option.bind (fixed_Mul a_ 1) fun y11 =>
  Option.bind (fixed_Sum [a_, b]) fun y20 =>
  Option.bind (fixed_Sum [b, a_]) fun y29 =>
  Option.bind (fixed_Sum [y20.1, w64 (0 - b)]) fun y38 =>
  lt (cond (cond (y8.2 != 0) true (y11.2 != 0)) true (y20.2 != 0)) fun x41 =>
  lt (cond (cond x41 true (y29.2 != 0)) true (y38.2 != 0)) fun x42 =>
  lt (cond (cond x42 true (y8.1 != a_)) true (y11.1 != (w64 (Int.tdiv a_ 1000)))) fun x43 =>
  cond (cond x43 true (y20.1 != y29.1)) (
  some false) (
  cond (decide (1000000000000 < (w64 (a_ + b)))) (
  Option.bind (cond (y20.1 == 1000000000000) (law06_alive) (some default)) fun y50 =>
  some (cond (y20.1 == 1000000000000) y50 false)) (
  lt (decide ((w64 (a_ + b)) < (-1000000000000))) fun x53 =>
  cond x53 (
  Option.bind (cond (y20.1 == (-1000000000000)) (law06_alive) (some default)) fun y56 =>
  lt (cond (y20.1 == (-1000000000000)) y56 false) fun x57 =>
  some x57) (
  lt (cond (y20.1 == (w64 (a_ + b))) (y38.1 == a_) false) fun x60 =>
  Option.bind (cond x60 (law06_alive) (some default)) fun y61 =>
  some (cond x60 y61 false)))))
theorem law06_FixedParts_w  (a_ : Int) (b : Int) (r : Bool) (hm : law06_FixedParts a_ b = some r) (w : World)  : Calls Try.prog 5 ⟨[.int .i64 a_, .int .i64 b]⟩ w (V.Pure (.bool r) w) := by
  rw [law06_FixedParts] at hm
  refine calls_entry Try.func5 rfl Try.ntmps5 rfl fun _ H => ?_
  have hB := Kp.refl [] w
  have hN : ND w.heap.size [] [] w := ND.start (by simp) (by intro b hb; simp at hb)
  refine s_reg [] [0, 1] [(0, [], .int .i64 a_), (1, [], .int .i64 b)] [] H (by kernel_rfl) trivial fun _ w1 H2 hb => ?_
  clear H
  replace hN := hN.mono hb.size
  replace hB := hB.step hb
  clear hb
  refine w_seq ?_
  refine s_reg [(.bool (r06_Is a_)), (.bool (r06_Is b))] [0, 1, 22] [(0, [], .int .i64 a_), (1, [], .int .i64 b), (22, [], .bool (cond (!(r06_Is a_)) true (!(r06_Is b))))] [fun wz => RetB Try.prog 13 ⟨[.int .i64 a_]⟩ (.bool (r06_Is a_)) wz, fun wz => ((!(r06_Is a_)) = false ∧ True → RetB Try.prog 13 ⟨[.int .i64 b]⟩ (.bool (r06_Is b)) wz)] H2 (by kernel_rfl) ⟨(r06_Is_ok _).b, fun _ => (r06_Is_ok _).b, trivial⟩ fun _ w3 H4 hb => ?_
  clear H2
  replace hN := hN.mono hb.size
  replace hB := hB.step hb
  clear hb
  refine w_if H4 rfl (fun hc => ?_) (fun hc => ?_)
  · replace hm := bT hc hm
    obtain ⟨y5, hy5, hm⟩ := bindE hm
    refine s_reg [(.bool y5)] [4] [(4, [], .bool y5)] [fun wz => RetB Try.prog 14 ⟨[]⟩ (.bool y5) wz] H4 (by kernel_rfl) ⟨(law06_alive_ok _ hy5).b, trivial⟩ fun _ w6 H7 hb => ?_
    clear H4
    replace hN := hN.mono hb.size
    replace hB := hB.step hb
    clear hb
    refine w_ret ?_
    obtain rfl := someE hm
    exact ret1 H7 rfl rfl ⟨rfl, hB.below⟩
  · replace hm := bF hc hm
    refine w_skip ?_
    obtain ⟨y8, hy8, hm⟩ := bindE hm
    refine s_reg [(.tuple ⟨[.int .i64 y8.1, .int .i64 y8.2]⟩)] [0, 1, 5, 6] [(0, [], .int .i64 a_), (1, [], .int .i64 b), (5, [], .int .i64 y8.1), (6, [], .int .i64 y8.2)] [fun wz => RetB Try.prog 9 ⟨[.int .i64 a_, .int .i64 1000]⟩ (.tuple ⟨[.int .i64 y8.1, .int .i64 y8.2]⟩) wz] H4 (by kernel_rfl) ⟨(fixed_Mul_ok _ _ _ hy8).b, trivial⟩ fun _ w9 H10 hb => ?_
    clear H4
    replace hN := hN.mono hb.size
    replace hB := hB.step hb
    clear hb
    obtain ⟨y11, hy11, hm⟩ := bindE hm
    refine s_reg [(.tuple ⟨[.int .i64 y11.1, .int .i64 y11.2]⟩)] [0, 1, 5, 6, 7, 8] [(0, [], .int .i64 a_), (1, [], .int .i64 b), (5, [], .int .i64 y8.1), (6, [], .int .i64 y8.2), (7, [], .int .i64 y11.1), (8, [], .int .i64 y11.2)] [fun wz => RetB Try.prog 9 ⟨[.int .i64 a_, .int .i64 1]⟩ (.tuple ⟨[.int .i64 y11.1, .int .i64 y11.2]⟩) wz] H10 (by kernel_rfl) ⟨(fixed_Mul_ok _ _ _ hy11).b, trivial⟩ fun _ w12 H13 hb => ?_
    clear H10
    replace hN := hN.mono hb.size
    replace hB := hB.step hb
    clear hb
    refine w_seq ?_
    refine wl_start ?_
    refine wl_batch 0 2 [] [0, 1, 5, 6, 7, 8, 35, 36] [(0, [], .int .i64 a_), (1, [], .int .i64 b), (5, [], .int .i64 y8.1), (6, [], .int .i64 y8.2), (7, [], .int .i64 y11.1), (8, [], .int .i64 y11.2), (35, [], .int .i64 a_), (36, [], .int .i64 b)] [] H13 (by decide) (by kernel_rfl) trivial fun _ w14 H15 hb => ?_
    clear H13
    replace hN := hN.mono hb.size
    replace hB := hB.step hb
    clear hb
    refine m_buildO (enc := (encI .i64)) (E := 2) (z := 1) (zv := .int .i64 0) (fun _ => rfl) [.int .i64 a_, .int .i64 b] ([a_, b] : List (Int)) [37, 0, 1, 5, 6, 7, 8] [(0, [], .int .i64 a_), (1, [], .int .i64 b), (5, [], .int .i64 y8.1), (6, [], .int .i64 y8.2), (7, [], .int .i64 y11.1), (8, [], .int .i64 y11.2)] _ H15 rfl rfl rfl (by kernel_rfl) (by kernel_rfl) (by kernel_rfl) (by kernel_rfl) (by kernel_rfl) rfl rfl rfl (fun _ => rfl) fun _ w16 a18 H17 hq ha ho_o19 => ?_
    clear H15
    replace hB := hB.step0 hq
    replace hN : ND w.heap.size [abl a18] [] _ := hN.birth hq.size (abl a18) (by rw [ha]; simp) ho_o19.lt
    clear hq ha
    obtain ⟨y20, hy20, hm⟩ := bindE hm
    refine wl_batch 3 9 [(.tuple ⟨[.int .i64 y20.1, .int .i64 y20.2]⟩)] [0, 1, 5, 6, 7, 8, 9, 10] [(0, [], .int .i64 a_), (1, [], .int .i64 b), (5, [], .int .i64 y8.1), (6, [], .int .i64 y8.2), (7, [], .int .i64 y11.1), (8, [], .int .i64 y11.2), (9, [], .int .i64 y20.1), (10, [], .int .i64 y20.2)] [fun wz => RetB Try.prog 7 ⟨[.slice a18 2 2]⟩ (.tuple ⟨[.int .i64 y20.1, .int .i64 y20.2]⟩) wz] H17 (by decide) (by kernel_rfl) ⟨(fixed_Sum_ok _ _ hy20 _ (Ow.sl (enc := (encI .i64)) (z := 1) (fun _ => rfl) ho_o19)), trivial⟩ fun _ w21 H22 hb => ?_
    clear H17
    replace ho_o19 := ho_o19.below hb
    replace hN := hN.mono hb.size
    replace hB := hB.step hb
    clear hb
    refine wl_end rfl ?_
    clear ho_o19
    replace hN : ND w.heap.size [] [] _ := hN.pick [false]
    refine w_seq ?_
    refine wl_start ?_
    refine wl_batch 0 2 [] [0, 1, 5, 6, 7, 8, 9, 10, 42, 43] [(0, [], .int .i64 a_), (1, [], .int .i64 b), (5, [], .int .i64 y8.1), (6, [], .int .i64 y8.2), (7, [], .int .i64 y11.1), (8, [], .int .i64 y11.2), (9, [], .int .i64 y20.1), (10, [], .int .i64 y20.2), (42, [], .int .i64 b), (43, [], .int .i64 a_)] [] H22 (by decide) (by kernel_rfl) trivial fun _ w23 H24 hb => ?_
    clear H22
    replace hN := hN.mono hb.size
    replace hB := hB.step hb
    clear hb
    refine m_buildO (enc := (encI .i64)) (E := 2) (z := 1) (zv := .int .i64 0) (fun _ => rfl) [.int .i64 b, .int .i64 a_] ([b, a_] : List (Int)) [44, 0, 1, 5, 6, 7, 8, 9, 10] [(0, [], .int .i64 a_), (1, [], .int .i64 b), (5, [], .int .i64 y8.1), (6, [], .int .i64 y8.2), (7, [], .int .i64 y11.1), (8, [], .int .i64 y11.2), (9, [], .int .i64 y20.1), (10, [], .int .i64 y20.2)] _ H24 rfl rfl rfl (by kernel_rfl) (by kernel_rfl) (by kernel_rfl) (by kernel_rfl) (by kernel_rfl) rfl rfl rfl (fun _ => rfl) fun _ w25 a27 H26 hq ha ho_o28 => ?_
    clear H24
    replace hB := hB.step0 hq
    replace hN : ND w.heap.size [abl a27] [] _ := hN.birth hq.size (abl a27) (by rw [ha]; simp) ho_o28.lt
    clear hq ha
    obtain ⟨y29, hy29, hm⟩ := bindE hm
    refine wl_batch 3 9 [(.tuple ⟨[.int .i64 y29.1, .int .i64 y29.2]⟩)] [0, 1, 5, 6, 7, 8, 9, 10, 11, 12] [(0, [], .int .i64 a_), (1, [], .int .i64 b), (5, [], .int .i64 y8.1), (6, [], .int .i64 y8.2), (7, [], .int .i64 y11.1), (8, [], .int .i64 y11.2), (9, [], .int .i64 y20.1), (10, [], .int .i64 y20.2), (11, [], .int .i64 y29.1), (12, [], .int .i64 y29.2)] [fun wz => RetB Try.prog 7 ⟨[.slice a27 2 2]⟩ (.tuple ⟨[.int .i64 y29.1, .int .i64 y29.2]⟩) wz] H26 (by decide) (by kernel_rfl) ⟨(fixed_Sum_ok _ _ hy29 _ (Ow.sl (enc := (encI .i64)) (z := 1) (fun _ => rfl) ho_o28)), trivial⟩ fun _ w30 H31 hb => ?_
    clear H26
    replace ho_o28 := ho_o28.below hb
    replace hN := hN.mono hb.size
    replace hB := hB.step hb
    clear hb
    refine wl_end rfl ?_
    clear ho_o28
    replace hN : ND w.heap.size [] [] _ := hN.pick [false]
    refine w_seq ?_
    refine wl_start ?_
    refine wl_batch 0 3 [] [0, 1, 5, 6, 7, 8, 9, 10, 11, 12, 49, 51] [(0, [], .int .i64 a_), (1, [], .int .i64 b), (5, [], .int .i64 y8.1), (6, [], .int .i64 y8.2), (7, [], .int .i64 y11.1), (8, [], .int .i64 y11.2), (9, [], .int .i64 y20.1), (10, [], .int .i64 y20.2), (11, [], .int .i64 y29.1), (12, [], .int .i64 y29.2), (49, [], .int .i64 y20.1), (51, [], .int .i64 (w64 (0 - b)))] [] H31 (by decide) (by kernel_rfl) trivial fun _ w32 H33 hb => ?_
    clear H31
    replace hN := hN.mono hb.size
    replace hB := hB.step hb
    clear hb
    refine m_buildO (enc := (encI .i64)) (E := 2) (z := 1) (zv := .int .i64 0) (fun _ => rfl) [.int .i64 y20.1, .int .i64 (w64 (0 - b))] ([y20.1, w64 (0 - b)] : List (Int)) [52, 0, 1, 5, 6, 7, 8, 9, 10, 11, 12] [(0, [], .int .i64 a_), (1, [], .int .i64 b), (5, [], .int .i64 y8.1), (6, [], .int .i64 y8.2), (7, [], .int .i64 y11.1), (8, [], .int .i64 y11.2), (9, [], .int .i64 y20.1), (10, [], .int .i64 y20.2), (11, [], .int .i64 y29.1), (12, [], .int .i64 y29.2)] _ H33 rfl rfl rfl (by kernel_rfl) (by kernel_rfl) (by kernel_rfl) (by kernel_rfl) (by kernel_rfl) rfl rfl rfl (fun _ => rfl) fun _ w34 a36 H35 hq ha ho_o37 => ?_
    clear H33
    replace hB := hB.step0 hq
    replace hN : ND w.heap.size [abl a36] [] _ := hN.birth hq.size (abl a36) (by rw [ha]; simp) ho_o37.lt
    clear hq ha
    obtain ⟨y38, hy38, hm⟩ := bindE hm
    refine wl_batch 4 10 [(.tuple ⟨[.int .i64 y38.1, .int .i64 y38.2]⟩)] [0, 1, 5, 6, 7, 8, 9, 10, 11, 12, 13, 14] [(0, [], .int .i64 a_), (1, [], .int .i64 b), (5, [], .int .i64 y8.1), (6, [], .int .i64 y8.2), (7, [], .int .i64 y11.1), (8, [], .int .i64 y11.2), (9, [], .int .i64 y20.1), (10, [], .int .i64 y20.2), (11, [], .int .i64 y29.1), (12, [], .int .i64 y29.2), (13, [], .int .i64 y38.1), (14, [], .int .i64 y38.2)] [fun wz => RetB Try.prog 7 ⟨[.slice a36 2 2]⟩ (.tuple ⟨[.int .i64 y38.1, .int .i64 y38.2]⟩) wz] H35 (by decide) (by kernel_rfl) ⟨(fixed_Sum_ok _ _ hy38 _ (Ow.sl (enc := (encI .i64)) (z := 1) (fun _ => rfl) ho_o37)), trivial⟩ fun _ w39 H40 hb => ?_
    clear H35
    replace ho_o37 := ho_o37.below hb
    replace hN := hN.mono hb.size
    replace hB := hB.step hb
    clear hb
    refine wl_end rfl ?_
    clear ho_o37
    replace hN : ND w.heap.size [] [] _ := hN.pick [false]
    refine w_seq ?_
    obtain ⟨x41, hx41, hm⟩ := letE hm
    obtain ⟨x42, hx42, hm⟩ := letE hm
    obtain ⟨x43, hx43, hm⟩ := letE hm
    refine s_reg [] [0, 1, 9, 13, 89] [(0, [], .int .i64 a_), (1, [], .int .i64 b), (9, [], .int .i64 y20.1), (13, [], .int .i64 y38.1), (89, [], .bool (cond x43 true (y20.1 != y29.1)))] [fun _ => ((cond x42 true (y8.1 != a_)) = false ∧ True → (1000 : Int) ≠ 0)] H40 (by subst hx41 hx42 hx43; kernel_rfl) ⟨fun h => (fun _ => by show (1000 : Int) ≠ 0; decide) h.1, trivial⟩ fun _ w44 H45 hb => ?_
    clear H40
    replace hN := hN.mono hb.size
    replace hB := hB.step hb
    clear hb
    refine w_if H45 rfl (fun hc => ?_) (fun hc => ?_)
    · replace hm := bT hc hm
      refine s_reg [] [4] [(4, [], .bool false)] [] H45 (by kernel_rfl) trivial fun _ w46 H47 hb => ?_
      clear H45
      replace hN := hN.mono hb.size
      replace hB := hB.step hb
      clear hb
      refine w_ret ?_
      obtain rfl := someE hm
      exact ret1 H47 rfl rfl ⟨rfl, hB.below⟩
    · replace hm := bF hc hm
      refine w_skip ?_
      refine w_seq ?_
      refine s_reg [] [0, 1, 9, 13, 93] [(0, [], .int .i64 a_), (1, [], .int .i64 b), (9, [], .int .i64 y20.1), (13, [], .int .i64 y38.1), (93, [], .bool (decide (1000000000000 < (w64 (a_ + b)))))] [] H45 (by kernel_rfl) trivial fun _ w48 H49 hb => ?_
      clear H45
      replace hN := hN.mono hb.size
      replace hB := hB.step hb
      clear hb
      refine w_if H49 rfl (fun hc => ?_) (fun hc => ?_)
      · replace hm := bT hc hm
        obtain ⟨y50, hy50, hm⟩ := bindE hm
        refine s_reg [(.bool y50)] [4] [(4, [], .bool (cond (y20.1 == 1000000000000) y50 false))] [fun wz => ((y20.1 == 1000000000000) = true ∧ True → RetB Try.prog 14 ⟨[]⟩ (.bool y50) wz)] H49 (by kernel_rfl) ⟨fun hg => (law06_alive_ok _ (bT (hg.1) hy50)).b, trivial⟩ fun _ w51 H52 hb => ?_
        clear H49
        replace hN := hN.mono hb.size
        replace hB := hB.step hb
        clear hb
        refine w_ret ?_
        obtain rfl := someE hm
        exact ret1 H52 rfl rfl ⟨rfl, hB.below⟩
      · replace hm := bF hc hm
        refine w_skip ?_
        refine w_seq ?_
        obtain ⟨x53, hx53, hm⟩ := letE hm
        refine s_reg [] [0, 1, 9, 13, 102] [(0, [], .int .i64 a_), (1, [], .int .i64 b), (9, [], .int .i64 y20.1), (13, [], .int .i64 y38.1), (102, [], .bool x53)] [] H49 (by subst hx53; kernel_rfl) trivial fun _ w54 H55 hb => ?_
        clear H49
        replace hN := hN.mono hb.size
        replace hB := hB.step hb
        clear hb
        refine w_if H55 rfl (fun hc => ?_) (fun hc => ?_)
        · replace hm := bT hc hm
          obtain ⟨y56, hy56, hm⟩ := bindE hm
          obtain ⟨x57, hx57, hm⟩ := letE hm
          refine s_reg [(.bool y56)] [4] [(4, [], .bool x57)] [fun wz => ((y20.1 == (-1000000000000)) = true ∧ True → RetB Try.prog 14 ⟨[]⟩ (.bool y56) wz)] H55 (by subst hx57; kernel_rfl) ⟨fun hg => (law06_alive_ok _ (bT (hg.1) hy56)).b, trivial⟩ fun _ w58 H59 hb => ?_
          clear H55
          replace hN := hN.mono hb.size
          replace hB := hB.step hb
          clear hb
          refine w_ret ?_
          obtain rfl := someE hm
          exact ret1 H59 rfl rfl ⟨rfl, hB.below⟩
        · replace hm := bF hc hm
          refine w_skip ?_
          obtain ⟨x60, hx60, hm⟩ := letE hm
          obtain ⟨y61, hy61, hm⟩ := bindE hm
          refine s_reg [(.bool y61)] [4] [(4, [], .bool (cond x60 y61 false))] [fun wz => (x60 = true ∧ True → RetB Try.prog 14 ⟨[]⟩ (.bool y61) wz)] H55 (by subst hx60; kernel_rfl) ⟨fun hg => (law06_alive_ok _ (bT (hg.1) hy61)).b, trivial⟩ fun _ w62 H63 hb => ?_
          clear H55
          replace hN := hN.mono hb.size
          replace hB := hB.step hb
          clear hb
          refine w_ret ?_
          obtain rfl := someE hm
          exact ret1 H63 rfl rfl ⟨rfl, hB.below⟩
theorem law06_FixedParts_ok  (a_ : Int) (b : Int) (r : Bool) (hm : law06_FixedParts a_ b = some r) : Ret Try.prog 5 ⟨[.int .i64 a_, .int .i64 b]⟩ (.bool r) := ret_of (Try.call5 _) (law06_FixedParts_w a_ b r hm)

def law06_FixedWithin (n_ : Int) (least : Int) (most : Int) : Option (Bool) :=
  lt (cond (!(r06_Is n_)) true (!(r06_Is least))) fun x3 =>
  lt (cond (cond x3 true (!(r06_Is most))) true (decide (most < least))) fun x4 =>
  cond x4 (
  Option.bind (law06_alive) fun y7 =>
  some y7) (
  Option.bind (fixed_Within n_ least most) fun y10 =>
  Option.bind (fixed_Within y10.1 least most) fun y13 =>
  Option.bind (fixed_Whole n_) fun y16 =>
  lt (cond (cond (y10.2 != 0) true (y13.2 != 0)) true (y16.2 != 0)) fun x19 =>
  lt (cond (cond x19 true (decide (y10.1 < least))) true (decide (most < y10.1))) fun x20 =>
  lt (cond (cond x20 true (y10.1 != y13.1)) true (!((y10.1 == n_) == (cond (decide (least ≤ n_)) (decide (n_ ≤ most)) false)))) fun x21 =>
  lt (cond x21 true (cond (cond (y10.1 != n_) (y10.1 != least) false) (y10.1 != most) false)) fun x22 =>
  cond x22 (
  some false) (
  lt (cond ((Int.tmod y16.1 1000) == 0) (cond (cond (cond (cond (decide (0 ≤ n_)) (decide (0 ≤ y16.1)) false) (decide (0 ≤ (w64 (n_ - y16.1)))) false) (decide ((w64 (n_ - y16.1)) < 1000)) false) true (cond (cond (cond (decide (n_ ≤ 0)) (decide (y16.1 ≤ 0)) false) (decide (0 ≤ (w64 (y16.1 - n_)))) false) (decide ((w64 (y16.1 - n_)) < 1000)) false)) false) fun x27 =>
  Option.bind (cond x27 (law06_alive) (some default)) fun y28 =>
  some (cond x27 y28 false)))
theorem law06_FixedWithin_w  (n_ : Int) (least : Int) (most : Int) (r : Bool) (hm : law06_FixedWithin n_ least most = some r) (w : World)  : Calls Try.prog 6 ⟨[.int .i64 n_, .int .i64 least, .int .i64 most]⟩ w (V.Pure (.bool r) w) := by
  rw [law06_FixedWithin] at hm
  refine calls_entry Try.func6 rfl Try.ntmps6 rfl fun _ H => ?_
  have hB := Kp.refl [] w
  have hN : ND w.heap.size [] [] w := ND.start (by simp) (by intro b hb; simp at hb)
  refine s_reg [] [0, 1, 2] [(0, [], .int .i64 n_), (1, [], .int .i64 least), (2, [], .int .i64 most)] [] H (by kernel_rfl) trivial fun _ w1 H2 hb => ?_
  clear H
  replace hN := hN.mono hb.size
  replace hB := hB.step hb
  clear hb
  refine w_seq ?_
  obtain ⟨x3, hx3, hm⟩ := letE hm
  obtain ⟨x4, hx4, hm⟩ := letE hm
  refine s_reg [(.bool (r06_Is n_)), (.bool (r06_Is least)), (.bool (r06_Is most))] [0, 1, 2, 30] [(0, [], .int .i64 n_), (1, [], .int .i64 least), (2, [], .int .i64 most), (30, [], .bool x4)] [fun wz => RetB Try.prog 13 ⟨[.int .i64 n_]⟩ (.bool (r06_Is n_)) wz, fun wz => ((!(r06_Is n_)) = false ∧ True → RetB Try.prog 13 ⟨[.int .i64 least]⟩ (.bool (r06_Is least)) wz), fun wz => (x3 = false ∧ True → RetB Try.prog 13 ⟨[.int .i64 most]⟩ (.bool (r06_Is most)) wz)] H2 (by subst hx3 hx4; kernel_rfl) ⟨(r06_Is_ok _).b, fun _ => (r06_Is_ok _).b, fun _ => (r06_Is_ok _).b, trivial⟩ fun _ w5 H6 hb => ?_
  clear H2
  replace hN := hN.mono hb.size
  replace hB := hB.step hb
  clear hb
  refine w_if H6 rfl (fun hc => ?_) (fun hc => ?_)
  · replace hm := bT hc hm
    obtain ⟨y7, hy7, hm⟩ := bindE hm
    refine s_reg [(.bool y7)] [6] [(6, [], .bool y7)] [fun wz => RetB Try.prog 14 ⟨[]⟩ (.bool y7) wz] H6 (by kernel_rfl) ⟨(law06_alive_ok _ hy7).b, trivial⟩ fun _ w8 H9 hb => ?_
    clear H6
    replace hN := hN.mono hb.size
    replace hB := hB.step hb
    clear hb
    refine w_ret ?_
    obtain rfl := someE hm
    exact ret1 H9 rfl rfl ⟨rfl, hB.below⟩
  · replace hm := bF hc hm
    refine w_skip ?_
    obtain ⟨y10, hy10, hm⟩ := bindE hm
    refine s_reg [(.tuple ⟨[.int .i64 y10.1, .int .i64 y10.2]⟩)] [0, 1, 2, 7, 8] [(0, [], .int .i64 n_), (1, [], .int .i64 least), (2, [], .int .i64 most), (7, [], .int .i64 y10.1), (8, [], .int .i64 y10.2)] [fun wz => RetB Try.prog 11 ⟨[.int .i64 n_, .int .i64 least, .int .i64 most]⟩ (.tuple ⟨[.int .i64 y10.1, .int .i64 y10.2]⟩) wz] H6 (by kernel_rfl) ⟨(fixed_Within_ok _ _ _ _ hy10).b, trivial⟩ fun _ w11 H12 hb => ?_
    clear H6
    replace hN := hN.mono hb.size
    replace hB := hB.step hb
    clear hb
    obtain ⟨y13, hy13, hm⟩ := bindE hm
    refine s_reg [(.tuple ⟨[.int .i64 y13.1, .int .i64 y13.2]⟩)] [0, 1, 2, 7, 8, 9, 10] [(0, [], .int .i64 n_), (1, [], .int .i64 least), (2, [], .int .i64 most), (7, [], .int .i64 y10.1), (8, [], .int .i64 y10.2), (9, [], .int .i64 y13.1), (10, [], .int .i64 y13.2)] [fun wz => RetB Try.prog 11 ⟨[.int .i64 y10.1, .int .i64 least, .int .i64 most]⟩ (.tuple ⟨[.int .i64 y13.1, .int .i64 y13.2]⟩) wz] H12 (by kernel_rfl) ⟨(fixed_Within_ok _ _ _ _ hy13).b, trivial⟩ fun _ w14 H15 hb => ?_
    clear H12
    replace hN := hN.mono hb.size
    replace hB := hB.step hb
    clear hb
    obtain ⟨y16, hy16, hm⟩ := bindE hm
    refine s_reg [(.tuple ⟨[.int .i64 y16.1, .int .i64 y16.2]⟩)] [0, 1, 2, 7, 8, 9, 10, 11, 12] [(0, [], .int .i64 n_), (1, [], .int .i64 least), (2, [], .int .i64 most), (7, [], .int .i64 y10.1), (8, [], .int .i64 y10.2), (9, [], .int .i64 y13.1), (10, [], .int .i64 y13.2), (11, [], .int .i64 y16.1), (12, [], .int .i64 y16.2)] [fun wz => RetB Try.prog 15 ⟨[.int .i64 n_]⟩ (.tuple ⟨[.int .i64 y16.1, .int .i64 y16.2]⟩) wz] H15 (by kernel_rfl) ⟨(fixed_Whole_ok _ _ hy16).b, trivial⟩ fun _ w17 H18 hb => ?_
    clear H15
    replace hN := hN.mono hb.size
    replace hB := hB.step hb
    clear hb
    refine w_seq ?_
    obtain ⟨x19, hx19, hm⟩ := letE hm
    obtain ⟨x20, hx20, hm⟩ := letE hm
    obtain ⟨x21, hx21, hm⟩ := letE hm
    obtain ⟨x22, hx22, hm⟩ := letE hm
    refine s_reg [] [0, 11, 104] [(0, [], .int .i64 n_), (11, [], .int .i64 y16.1), (104, [], .bool x22)] [] H18 (by subst hx19 hx20 hx21 hx22; kernel_rfl) trivial fun _ w23 H24 hb => ?_
    clear H18
    replace hN := hN.mono hb.size
    replace hB := hB.step hb
    clear hb
    refine w_if H24 rfl (fun hc => ?_) (fun hc => ?_)
    · replace hm := bT hc hm
      refine s_reg [] [6] [(6, [], .bool false)] [] H24 (by kernel_rfl) trivial fun _ w25 H26 hb => ?_
      clear H24
      replace hN := hN.mono hb.size
      replace hB := hB.step hb
      clear hb
      refine w_ret ?_
      obtain rfl := someE hm
      exact ret1 H26 rfl rfl ⟨rfl, hB.below⟩
    · replace hm := bF hc hm
      refine w_skip ?_
      obtain ⟨x27, hx27, hm⟩ := letE hm
      obtain ⟨y28, hy28, hm⟩ := bindE hm
      refine s_reg [(.bool y28)] [6] [(6, [], .bool (cond x27 y28 false))] [fun _ => (1000 : Int) ≠ 0, fun wz => (x27 = true ∧ True → RetB Try.prog 14 ⟨[]⟩ (.bool y28) wz)] H24 (by subst hx27; kernel_rfl) ⟨(by show (1000 : Int) ≠ 0; decide), fun hg => (law06_alive_ok _ (bT (hg.1) hy28)).b, trivial⟩ fun _ w29 H30 hb => ?_
      clear H24
      replace hN := hN.mono hb.size
      replace hB := hB.step hb
      clear hb
      refine w_ret ?_
      obtain rfl := someE hm
      exact ret1 H30 rfl rfl ⟨rfl, hB.below⟩
theorem law06_FixedWithin_ok  (n_ : Int) (least : Int) (most : Int) (r : Bool) (hm : law06_FixedWithin n_ least most = some r) : Ret Try.prog 6 ⟨[.int .i64 n_, .int .i64 least, .int .i64 most]⟩ (.bool r) := ret_of (Try.call6 _) (law06_FixedWithin_w n_ least most r hm)

def law06_FixedCounts_L1 (l : List (Int)) (q16 : List (Int)) : Nat → Int → Option (Sum (Bool) (Unit))
  | 0, _ => none
  | m + 1, v42 =>
    cond (decide (v42 < (ln l))) (
    chk (0 ≤ v42 ∧ v42 < ln q16) <|
    chk (0 ≤ v42 ∧ v42 < ln l) <|
    cond ((gi q16 v42) != (gi l v42)) (
    some (.inl false)) (
    law06_FixedCounts_L1 l q16 m (w64 (v42 + 1)))) (
    some (.inr ()))
def law06_FixedCounts (a_ : Int) (b : Int) (c : Int) (l : List (Int)) : Option (Bool) :=
  cond (decide (50 < (ln l))) (
  some true) (
  chk (ln ([] : List (Int)) + ln l ≤ 1099511627776) <|
  lt (([] : List (Int)) ++ l) fun q16 =>
  Option.bind (fixed_Sum q16) fun y21 =>
  Option.bind (r06_Sum l) fun y24 =>
  Option.bind (fixed_Mul a_ b) fun y27 =>
  Option.bind (r06_Mul a_ b) fun y30 =>
  Option.bind (fixed_Within a_ b c) fun y33 =>
  lt (r06_Within a_ b c) fun y36 =>
  Option.bind (
  law06_FixedCounts_L1 l q16 (((ln l : Int) - 0).toNat + 1) 0) fun (z39 : Sum (Bool) (Unit)) => sumK z39 fun s_z39 =>
  lt (cond (y21.1 == y24.1) (y21.2 == y24.2) false) fun x54 =>
  lt (cond (cond x54 (y27.1 == y30.1) false) (y27.2 == y30.2) false) fun x55 =>
  lt (cond (cond x55 (y33.1 == y36.1) false) (y33.2 == y36.2) false) fun x56 =>
  some x56)
theorem law06_FixedCounts_w {a_l : Option Addr} {c_l : Nat} (a_ : Int) (b : Int) (c : Int) (l : List (Int)) (r : Bool) (hm : law06_FixedCounts a_ b c l = some r) (w : World) (hs_a_l : Sl (encI .i64) 1 w a_l l) : Calls Try.prog 3 ⟨[.int .i64 a_, .int .i64 b, .int .i64 c, .slice a_l l.length c_l]⟩ w (V.Pure (.bool r) w) := by
  rw [law06_FixedCounts] at hm
  refine calls_entry Try.func3 rfl Try.ntmps3 rfl fun _ H => ?_
  have hB := Kp.refl [] w
  have hN : ND w.heap.size [] [] w := ND.start (by simp) (by intro b hb; simp at hb)
  refine s_reg [] [0, 1, 2, 3] [(0, [], .int .i64 a_), (1, [], .int .i64 b), (2, [], .int .i64 c), (3, [], .slice a_l l.length c_l)] [] H (by kernel_rfl) trivial fun _ w1 H2 hb => ?_
  clear H
  replace hN := hN.mono hb.size
  replace hB := hB.step hb
  clear hb
  refine w_seq ?_
  refine s_reg [] [0, 1, 2, 3, 25] [(0, [], .int .i64 a_), (1, [], .int .i64 b), (2, [], .int .i64 c), (3, [], .slice a_l l.length c_l), (25, [], .bool (decide (50 < (ln l))))] [] H2 (by kernel_rfl) trivial fun _ w3 H4 hb => ?_
  clear H2
  replace hN := hN.mono hb.size
  replace hB := hB.step hb
  clear hb
  refine w_if H4 rfl (fun hc => ?_) (fun hc => ?_)
  · replace hm := bT hc hm
    refine s_reg [] [8] [(8, [], .bool true)] [] H4 (by kernel_rfl) trivial fun _ w5 H6 hb => ?_
    clear H4
    replace hN := hN.mono hb.size
    replace hB := hB.step hb
    clear hb
    refine w_ret ?_
    obtain rfl := someE hm
    exact ret1 H6 rfl rfl ⟨rfl, hB.below⟩
  · replace hm := bF hc hm
    refine w_skip ?_
    refine w_seq ?_
    refine wl_start ?_
    refine m_build0 (α := Int) (enc := (encI .i64)) (E := 2) (z := 1) (fun _ => rfl) [26, 0, 1, 2, 3] [(0, [], .int .i64 a_), (1, [], .int .i64 b), (2, [], .int .i64 c), (3, [], .slice a_l l.length c_l)] H4 rfl (by kernel_rfl) (by kernel_rfl) rfl (fun _ => rfl) fun _ w7 a9 H8 hq ha ho_o10 => ?_
    clear H4
    replace hB := hB.step0 hq
    replace hN : ND w.heap.size [abl a9] [] _ := hN.birth hq.size (abl a9) (by rw [ha]; simp) ho_o10.lt
    clear hq ha
    refine wl_batch 1 2 [] [0, 1, 2, 3, 26, 27] [(0, [], .int .i64 a_), (1, [], .int .i64 b), (2, [], .int .i64 c), (3, [], .slice a_l l.length c_l), (26, [], .slice a9 0 0), (27, [], .slice a_l l.length c_l)] [] H8 (by decide) (by kernel_rfl) trivial fun _ w11 H12 hb => ?_
    clear H8
    replace ho_o10 := ho_o10.below hb
    replace hN := hN.mono hb.size
    replace hB := hB.step hb
    clear hb
    obtain ⟨ho15, hm⟩ := chkE hm
    obtain ⟨q16, hq16, hm⟩ := letE hm
    refine m_append (enc := (encI .i64)) (e := 2) (z := 1) (zv := .int .i64 0) (l1 := ([] : List (Int))) (l2 := l) (fun _ => rfl) (fun _ => rfl) q16 hq16.symm [28, 0, 1, 2, 3] [(0, [], .int .i64 a_), (1, [], .int .i64 b), (2, [], .int .i64 c), (3, [], .slice a_l l.length c_l)] H12 rfl rfl rfl rfl rfl (by kernel_rfl) (by kernel_rfl) rfl rfl ho_o10 (hs_a_l.kp hB nin0) ho15 rfl (fun _ _ => rfl) fun _ w13 a17 c18 H14 hq hor ho => ?_
    clear H12
    replace hB := hB.trans hq (hN.low 0)
    replace hN : ND w.heap.size [abl a17] [] _ := hN.move 0 (abl a17) hq.size (own_move hor rfl ho) ho.lt
    clear ho_o10 hq hor
    have ho_o10 := ho
    clear ho
    refine wl_batch 3 4 [] [0, 1, 2, 3, 9] [(0, [], .int .i64 a_), (1, [], .int .i64 b), (2, [], .int .i64 c), (3, [], .slice a_l l.length c_l), (9, [], .slice a17 q16.length c18)] [] H14 (by decide) (by kernel_rfl) trivial fun _ w19 H20 hb => ?_
    clear H14
    replace ho_o10 := ho_o10.below hb
    replace hN := hN.mono hb.size
    replace hB := hB.step hb
    clear hb
    refine wl_end rfl ?_
    obtain ⟨y21, hy21, hm⟩ := bindE hm
    refine s_reg [(.tuple ⟨[.int .i64 y21.1, .int .i64 y21.2]⟩)] [0, 1, 2, 3, 9, 10, 11] [(0, [], .int .i64 a_), (1, [], .int .i64 b), (2, [], .int .i64 c), (3, [], .slice a_l l.length c_l), (9, [], .slice a17 q16.length c18), (10, [], .int .i64 y21.1), (11, [], .int .i64 y21.2)] [fun wz => RetB Try.prog 7 ⟨[.slice a17 q16.length c18]⟩ (.tuple ⟨[.int .i64 y21.1, .int .i64 y21.2]⟩) wz] H20 (by kernel_rfl) ⟨(fixed_Sum_ok _ _ hy21 _ (Ow.sl (enc := (encI .i64)) (z := 1) (fun _ => rfl) ho_o10)), trivial⟩ fun _ w22 H23 hb => ?_
    clear H20
    replace ho_o10 := ho_o10.below hb
    replace hN := hN.mono hb.size
    replace hB := hB.step hb
    clear hb
    obtain ⟨y24, hy24, hm⟩ := bindE hm
    refine s_reg [(.tuple ⟨[.int .i64 y24.1, .int .i64 y24.2]⟩)] [0, 1, 2, 3, 9, 10, 11, 12, 13] [(0, [], .int .i64 a_), (1, [], .int .i64 b), (2, [], .int .i64 c), (3, [], .slice a_l l.length c_l), (9, [], .slice a17 q16.length c18), (10, [], .int .i64 y21.1), (11, [], .int .i64 y21.2), (12, [], .int .i64 y24.1), (13, [], .int .i64 y24.2)] [fun wz => RetB Try.prog 8 ⟨[.slice a_l l.length c_l]⟩ (.tuple ⟨[.int .i64 y24.1, .int .i64 y24.2]⟩) wz] H23 (by kernel_rfl) ⟨(r06_Sum_ok _ _ hy24 _ (hs_a_l.kp hB nin0)), trivial⟩ fun _ w25 H26 hb => ?_
    clear H23
    replace ho_o10 := ho_o10.below hb
    replace hN := hN.mono hb.size
    replace hB := hB.step hb
    clear hb
    obtain ⟨y27, hy27, hm⟩ := bindE hm
    refine s_reg [(.tuple ⟨[.int .i64 y27.1, .int .i64 y27.2]⟩)] [0, 1, 2, 3, 9, 10, 11, 12, 13, 14, 15] [(0, [], .int .i64 a_), (1, [], .int .i64 b), (2, [], .int .i64 c), (3, [], .slice a_l l.length c_l), (9, [], .slice a17 q16.length c18), (10, [], .int .i64 y21.1), (11, [], .int .i64 y21.2), (12, [], .int .i64 y24.1), (13, [], .int .i64 y24.2), (14, [], .int .i64 y27.1), (15, [], .int .i64 y27.2)] [fun wz => RetB Try.prog 9 ⟨[.int .i64 a_, .int .i64 b]⟩ (.tuple ⟨[.int .i64 y27.1, .int .i64 y27.2]⟩) wz] H26 (by kernel_rfl) ⟨(fixed_Mul_ok _ _ _ hy27).b, trivial⟩ fun _ w28 H29 hb => ?_
    clear H26
    replace ho_o10 := ho_o10.below hb
    replace hN := hN.mono hb.size
    replace hB := hB.step hb
    clear hb
    obtain ⟨y30, hy30, hm⟩ := bindE hm
    refine s_reg [(.tuple ⟨[.int .i64 y30.1, .int .i64 y30.2]⟩)] [0, 1, 2, 3, 9, 10, 11, 12, 13, 14, 15, 16, 17] [(0, [], .int .i64 a_), (1, [], .int .i64 b), (2, [], .int .i64 c), (3, [], .slice a_l l.length c_l), (9, [], .slice a17 q16.length c18), (10, [], .int .i64 y21.1), (11, [], .int .i64 y21.2), (12, [], .int .i64 y24.1), (13, [], .int .i64 y24.2), (14, [], .int .i64 y27.1), (15, [], .int .i64 y27.2), (16, [], .int .i64 y30.1), (17, [], .int .i64 y30.2)] [fun wz => RetB Try.prog 10 ⟨[.int .i64 a_, .int .i64 b]⟩ (.tuple ⟨[.int .i64 y30.1, .int .i64 y30.2]⟩) wz] H29 (by kernel_rfl) ⟨(r06_Mul_ok _ _ _ hy30).b, trivial⟩ fun _ w31 H32 hb => ?_
    clear H29
    replace ho_o10 := ho_o10.below hb
    replace hN := hN.mono hb.size
    replace hB := hB.step hb
    clear hb
    obtain ⟨y33, hy33, hm⟩ := bindE hm
    refine s_reg [(.tuple ⟨[.int .i64 y33.1, .int .i64 y33.2]⟩)] [0, 1, 2, 3, 9, 10, 11, 12, 13, 14, 15, 16, 17, 18, 19] [(0, [], .int .i64 a_), (1, [], .int .i64 b), (2, [], .int .i64 c), (3, [], .slice a_l l.length c_l), (9, [], .slice a17 q16.length c18), (10, [], .int .i64 y21.1), (11, [], .int .i64 y21.2), (12, [], .int .i64 y24.1), (13, [], .int .i64 y24.2), (14, [], .int .i64 y27.1), (15, [], .int .i64 y27.2), (16, [], .int .i64 y30.1), (17, [], .int .i64 y30.2), (18, [], .int .i64 y33.1), (19, [], .int .i64 y33.2)] [fun wz => RetB Try.prog 11 ⟨[.int .i64 a_, .int .i64 b, .int .i64 c]⟩ (.tuple ⟨[.int .i64 y33.1, .int .i64 y33.2]⟩) wz] H32 (by kernel_rfl) ⟨(fixed_Within_ok _ _ _ _ hy33).b, trivial⟩ fun _ w34 H35 hb => ?_
    clear H32
    replace ho_o10 := ho_o10.below hb
    replace hN := hN.mono hb.size
    replace hB := hB.step hb
    clear hb
    obtain ⟨y36, hy36, hm⟩ := letE hm
    refine s_reg [(.tuple ⟨[.int .i64 y36.1, .int .i64 y36.2]⟩)] [3, 9, 10, 11, 12, 13, 14, 15, 16, 17, 18, 19, 20, 21] [(3, [], .slice a_l l.length c_l), (9, [], .slice a17 q16.length c18), (10, [], .int .i64 y21.1), (11, [], .int .i64 y21.2), (12, [], .int .i64 y24.1), (13, [], .int .i64 y24.2), (14, [], .int .i64 y27.1), (15, [], .int .i64 y27.2), (16, [], .int .i64 y30.1), (17, [], .int .i64 y30.2), (18, [], .int .i64 y33.1), (19, [], .int .i64 y33.2), (20, [], .int .i64 y36.1), (21, [], .int .i64 y36.2)] [fun wz => RetB Try.prog 12 ⟨[.int .i64 a_, .int .i64 b, .int .i64 c]⟩ (.tuple ⟨[.int .i64 y36.1, .int .i64 y36.2]⟩) wz] H35 (by subst hy36; kernel_rfl) ⟨(by rw [hy36]; exact (r06_Within_ok _ _ _).b), trivial⟩ fun _ w37 H38 hb => ?_
    clear H35
    replace ho_o10 := ho_o10.below hb
    replace hN := hN.mono hb.size
    replace hB := hB.step hb
    clear hb
    obtain ⟨z39, hz, hm_z39⟩ := bindE hm
    refine w_cut (fun a' w' => ∃ s_z39 : Unit, z39 = Sum.inr s_z39 ∧ Fr 108 [(10, [], .int .i64 y21.1), (11, [], .int .i64 y21.2), (12, [], .int .i64 y24.1), (13, [], .int .i64 y24.2), (14, [], .int .i64 y27.1), (15, [], .int .i64 y27.2), (16, [], .int .i64 y30.1), (17, [], .int .i64 y30.2), (18, [], .int .i64 y33.1), (19, [], .int .i64 y33.2), (20, [], .int .i64 y36.1), (21, [], .int .i64 y36.2)] a' ∧ Kp [] w w' ∧ ND w.heap.size [abl a17] [] w' ∧ Ow 2 (encI .i64) 1 w' a17 c18 q16) ?_ ?_
    · replace hm := hz
      refine s_reg [] [3, 9, 10, 11, 12, 13, 14, 15, 16, 17, 18, 19, 20, 21, 22] [(3, [], .slice a_l l.length c_l), (9, [], .slice a17 q16.length c18), (10, [], .int .i64 y21.1), (11, [], .int .i64 y21.2), (12, [], .int .i64 y24.1), (13, [], .int .i64 y24.2), (14, [], .int .i64 y27.1), (15, [], .int .i64 y27.2), (16, [], .int .i64 y30.1), (17, [], .int .i64 y30.2), (18, [], .int .i64 y33.1), (19, [], .int .i64 y33.2), (20, [], .int .i64 y36.1), (21, [], .int .i64 y36.2), (22, [], .int .i64 0)] [] H38 (by kernel_rfl) trivial fun _ w40 H41 hb => ?_
      clear H38
      replace ho_o10 := ho_o10.below hb
      replace hN := hN.mono hb.size
      replace hB := hB.step hb
      clear hb
      refine w_block ?_
      refine w_loop (fun m a' w' => ∃ (v42 : Int), law06_FixedCounts_L1 l q16 m v42 = some _ ∧ Fr 108 [(3, [], .slice a_l l.length c_l), (9, [], .slice a17 q16.length c18), (10, [], .int .i64 y21.1), (11, [], .int .i64 y21.2), (12, [], .int .i64 y24.1), (13, [], .int .i64 y24.2), (14, [], .int .i64 y27.1), (15, [], .int .i64 y27.2), (16, [], .int .i64 y30.1), (17, [], .int .i64 y30.2), (18, [], .int .i64 y33.1), (19, [], .int .i64 y33.2), (20, [], .int .i64 y36.1), (21, [], .int .i64 y36.2), (22, [], .int .i64 v42)] a' ∧ Kp [] w w' ∧ ND w.heap.size [abl a17] [] w' ∧ Ow 2 (encI .i64) 1 w' a17 c18 q16) ⟨_, 0, hm, Fr.keep (ks := [3, 9, 10, 11, 12, 13, 14, 15, 16, 17, 18, 19, 20, 21, 22]) H41 (by kernel_rfl), hB, hN, ho_o10⟩ ?_
      clear hm H41 hB hN ho_o10
      rintro m _ w53 ⟨v42, hm, H, hB, hN, ho_o10⟩
      cases m with
      | zero => exact noneE hm
      | succ m =>
        rw [law06_FixedCounts_L1] at hm
        refine w_seq ?_
        refine s_reg [] [3, 9, 10, 11, 12, 13, 14, 15, 16, 17, 18, 19, 20, 21, 22, 68] [(3, [], .slice a_l l.length c_l), (9, [], .slice a17 q16.length c18), (10, [], .int .i64 y21.1), (11, [], .int .i64 y21.2), (12, [], .int .i64 y24.1), (13, [], .int .i64 y24.2), (14, [], .int .i64 y27.1), (15, [], .int .i64 y27.2), (16, [], .int .i64 y30.1), (17, [], .int .i64 y30.2), (18, [], .int .i64 y33.1), (19, [], .int .i64 y33.2), (20, [], .int .i64 y36.1), (21, [], .int .i64 y36.2), (22, [], .int .i64 v42), (68, [], .bool (decide (v42 < (ln l))))] [] H (by kernel_rfl) trivial fun _ w43 H44 hb => ?_
        clear H
        replace ho_o10 := ho_o10.below hb
        replace hN := hN.mono hb.size
        replace hB := hB.step hb
        clear hb
        refine w_if H44 rfl (fun hc => ?_) (fun hc => ?_)
        · replace hm := bT hc hm
          refine w_skip ?_
          refine w_seq ?_
          refine w_block ?_
          obtain ⟨ho45, hm⟩ := chkE hm
          obtain ⟨ho46, hm⟩ := chkE hm
          refine s_draw [(.int .i64 (gi q16 v42)), (.int .i64 (gi l v42))] [3, 9, 10, 11, 12, 13, 14, 15, 16, 17, 18, 19, 20, 21, 22, 79] [(3, [], .slice a_l l.length c_l), (9, [], .slice a17 q16.length c18), (10, [], .int .i64 y21.1), (11, [], .int .i64 y21.2), (12, [], .int .i64 y24.1), (13, [], .int .i64 y24.2), (14, [], .int .i64 y27.1), (15, [], .int .i64 y27.2), (16, [], .int .i64 y30.1), (17, [], .int .i64 y30.2), (18, [], .int .i64 y33.1), (19, [], .int .i64 y33.2), (20, [], .int .i64 y36.1), (21, [], .int .i64 y36.2), (22, [], .int .i64 v42), (79, [], .bool ((gi q16 v42) != (gi l v42)))] [fun _ => oka a17 ∧ 0 ≤ v42 ∧ v42 < ln q16, fun wz => V.at1 ⟨ab a17, ao a17 + (v42).toNat * 1, none⟩ (.int .i64 (gi q16 v42)) wz, fun _ => oka a_l ∧ 0 ≤ v42 ∧ v42 < ln l, fun wz => V.at1 ⟨ab a_l, ao a_l + (v42).toNat * 1, none⟩ (.int .i64 (gi l v42)) wz] H44 (by kernel_rfl) (by kernel_rfl) (by kernel_rfl) ⟨((Ow.sl (enc := (encI .i64)) (z := 1) (fun _ => rfl) ho_o10).oki ho45), ((Ow.sl (enc := (encI .i64)) (z := 1) (fun _ => rfl) ho_o10).at1 (ho45).1 (ho45).2 0 rfl), ((hs_a_l.kp hB nin0).oki ho46), ((hs_a_l.kp hB nin0).at1 (ho46).1 (ho46).2 0 rfl), trivial⟩ fun _ w47 H48 hb => ?_
          clear H44
          replace ho_o10 := ho_o10.below hb
          replace hN := hN.mono hb.size
          replace hB := hB.step hb
          clear hb
          refine w_if H48 rfl (fun hc => ?_) (fun hc => ?_)
          · replace hm := bT hc hm
            refine s_reg [] [8] [(8, [], .bool false)] [] H48 (by kernel_rfl) trivial fun _ w49 H50 hb => ?_
            clear H48
            replace ho_o10 := ho_o10.below hb
            replace hN := hN.mono hb.size
            replace hB := hB.step hb
            clear hb
            clear ho_o10
            replace hN : ND w.heap.size [] [] _ := hN.pick [false]
            refine w_ret ?_
            obtain rfl := someE hm
            have hm := hm_z39
            obtain rfl := someE hm
            exact ret1 H50 rfl rfl ⟨rfl, hB.below⟩
          · replace hm := bF hc hm
            refine w_skip ?_
            refine w_reg [] [3, 9, 10, 11, 12, 13, 14, 15, 16, 17, 18, 19, 20, 21, 22] [(3, [], .slice a_l l.length c_l), (9, [], .slice a17 q16.length c18), (10, [], .int .i64 y21.1), (11, [], .int .i64 y21.2), (12, [], .int .i64 y24.1), (13, [], .int .i64 y24.2), (14, [], .int .i64 y27.1), (15, [], .int .i64 y27.2), (16, [], .int .i64 y30.1), (17, [], .int .i64 y30.2), (18, [], .int .i64 y33.1), (19, [], .int .i64 y33.2), (20, [], .int .i64 y36.1), (21, [], .int .i64 y36.2), (22, [], .int .i64 (w64 (v42 + 1)))] [] H48 (by kernel_rfl) trivial fun _ w51 H52 hb => ?_
            clear H48
            replace ho_o10 := ho_o10.below hb
            replace hN := hN.mono hb.size
            replace hB := hB.step hb
            clear hb
            exact ⟨_, Nat.lt_succ_self _, w64 (v42 + 1), hm, Fr.keep (ks := [3, 9, 10, 11, 12, 13, 14, 15, 16, 17, 18, 19, 20, 21, 22]) H52 (by kernel_rfl), hB, hN, ho_o10⟩
        · replace hm := bF hc hm
          refine w_exit rfl ?_
          obtain rfl := someE hm
          exact ⟨_, rfl, Fr.keep (ks := [10, 11, 12, 13, 14, 15, 16, 17, 18, 19, 20, 21]) H44 (by kernel_rfl), hB, hN, ho_o10⟩
    · rintro _ w59 ⟨s_z39, hz, H, hB, hN, ho_o10⟩
      subst hz
      replace hm := sumR hm_z39
      obtain ⟨x54, hx54, hm⟩ := letE hm
      obtain ⟨x55, hx55, hm⟩ := letE hm
      obtain ⟨x56, hx56, hm⟩ := letE hm
      refine s_reg [] [8] [(8, [], .bool x56)] [] H (by subst hx54 hx55 hx56; kernel_rfl) trivial fun _ w57 H58 hb => ?_
      clear H
      replace ho_o10 := ho_o10.below hb
      replace hN := hN.mono hb.size
      replace hB := hB.step hb
      clear hb
      clear ho_o10
      replace hN : ND w.heap.size [] [] _ := hN.pick [false]
      refine w_ret ?_
      obtain rfl := someE hm
      exact ret1 H58 rfl rfl ⟨rfl, hB.below⟩
theorem law06_FixedCounts_ok {a_l : Option Addr} {c_l : Nat} (a_ : Int) (b : Int) (c : Int) (l : List (Int)) (r : Bool) (hm : law06_FixedCounts a_ b c l = some r) (w : World) (hs_a_l : Sl (encI .i64) 1 w a_l l) : RetB Try.prog 3 ⟨[.int .i64 a_, .int .i64 b, .int .i64 c, .slice a_l l.length c_l]⟩ (.bool r) w := ⟨Try.call3 _, fun w' hb => law06_FixedCounts_w a_ b c l r hm w' (hs_a_l.below hb)⟩

end Go.Proofs.Ytbealjlgbfpadaa
