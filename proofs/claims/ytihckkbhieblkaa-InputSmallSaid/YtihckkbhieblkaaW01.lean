/-
  What the Go functions compute, as Lean functions, and that a call returns just that. Printed by a program.
-/
import Derived.Test.YtihckkbhieblkaaRows
import Derived.Test.YtihckkbhieblkaaV
set_option linter.unusedVariables false
namespace Go.Proofs.Ytihckkbhieblkaa
open Go.V Go.RowKit
def r01_Small (c : Int) : Int :=
  lt (cond (decide (65 ≤ c)) (decide (c ≤ 90)) false) fun x3 =>
  cond x3 (
  wu8 ((wu8 (c - 65)) + 97)) (
  c)
theorem r01_Small_w  (c : Int) (r : Int) (hm : r01_Small c = r) (w : World)  : Calls Try.prog 25 ⟨[.int .u8 c]⟩ w (V.Pure (.int .u8 r) w) := by
  rw [r01_Small] at hm
  refine calls_entry Try.func25 rfl Try.ntmps25 rfl fun _ H => ?_
  have hB := Kp.refl [] w
  refine s_reg [] [0] [(0, [], .int .u8 c)] [] H (by kernel_rfl) trivial fun _ w1 H2 hb => ?_
  clear H
  replace hB := hB.step hb
  clear hb
  refine w_seq ?_
  obtain ⟨x3, hx3, hm⟩ := letE hm
  refine s_reg [] [0, 8] [(0, [], .int .u8 c), (8, [], .bool x3)] [] H2 (by subst hx3; kernel_rfl) trivial fun _ w4 H5 hb => ?_
  clear H2
  replace hB := hB.step hb
  clear hb
  refine w_if H5 rfl (fun hc => ?_) (fun hc => ?_)
  · replace hm := bT hc hm
    refine s_reg [] [2] [(2, [], .int .u8 (wu8 ((wu8 (c - 65)) + 97)))] [] H5 (by kernel_rfl) trivial fun _ w6 H7 hb => ?_
    clear H5
    replace hB := hB.step hb
    clear hb
    refine w_ret ?_
    subst hm
    exact ret1 H7 rfl rfl ⟨rfl, hB.below⟩
  · replace hm := bF hc hm
    refine w_skip ?_
    refine s_reg [] [2] [(2, [], .int .u8 c)] [] H5 (by kernel_rfl) trivial fun _ w8 H9 hb => ?_
    clear H5
    replace hB := hB.step hb
    clear hb
    refine w_ret ?_
    subst hm
    exact ret1 H9 rfl rfl ⟨rfl, hB.below⟩
theorem r01_Small_ok  (c : Int) : Ret Try.prog 25 ⟨[.int .u8 c]⟩ (.int .u8 (r01_Small c)) := ret_of (Try.call25 _) (r01_Small_w c _ rfl)

def input_Lower_L1 (s : Str) : Nat → Int → (List Int) → Option (List Int)
  | 0, _, _ => none
  | m + 1, v14, v15 =>
    cond (decide (v14 < (ln (ofB s)))) (
    Option.bind (
    chk (0 ≤ v14 ∧ v14 < ln (ofB s)) <|
    lt (cond (decide (65 ≤ (gi v15 v14))) (decide ((gi v15 v14) ≤ 90)) false) fun x22 =>
    cond x22 (
    lt (seti v15 v14 (ibit .or .u8 (gi v15 v14) 32)) fun q29 =>
    some q29) (
    some v15)) fun (z18 : List Int) =>
    input_Lower_L1 s m (w64 (v14 + 1)) z18) (
    some v15)
def input_Lower (s : Str) : Option (Str) :=
  Option.bind (
  input_Lower_L1 s ((ln (ofB s) - 0).toNat + 1) 0 (ofB s)) fun (z11 : List Int) =>
  some (toB z11)
theorem input_Lower_w  (s : Str) (r : Str) (hm : input_Lower s = some r) (w : World)  : Calls Try.prog 11 ⟨[.string ⟨⟨s⟩⟩]⟩ w (V.Pure (.string ⟨⟨r⟩⟩) w) := by
  rw [input_Lower] at hm
  refine calls_entry Try.func11 rfl Try.ntmps11 rfl fun _ H => ?_
  have hB := Kp.refl [] w
  refine s_reg [] [0] [(0, [], .string ⟨⟨s⟩⟩)] [] H (by kernel_rfl) trivial fun _ w1 H2 hb => ?_
  clear H
  replace hB := hB.step hb
  clear hb
  refine w_seq ?_
  refine wl_start ?_
  refine wl_batch 0 1 [] [6] [(6, [], .string ⟨⟨s⟩⟩)] [] H2 (by decide) (by kernel_rfl) trivial fun _ w3 H4 hb => ?_
  clear H2
  replace hB := hB.step hb
  clear hb
  refine m_bytes (E := 5) [7] [] H4 rfl rfl (by kernel_rfl) (by kernel_rfl) (by kernel_rfl) rfl (fun _ _ => rfl) fun _ w5 b7 c8 H6 hq heq hk_b7 => ?_
  clear H4
  have hlo_b7 : w.heap.size ≤ b7 := by have := hB.size; omega
  replace hB := hB.step0 hq
  clear hq heq
  have hl_b7 : ln (ofB s) = ln (ofB s) := rfl
  refine wl_batch 2 3 [] [3] [(3, [], .slice (some ⟨b7, 0, none⟩) ((ofB s).length) c8)] [] H6 (by decide) (by kernel_rfl) trivial fun _ w9 H10 hb => ?_
  clear H6
  replace hk_b7 := hk_b7.below hb
  replace hB := hB.step hb
  clear hb
  refine wl_end rfl ?_
  obtain ⟨z11, hz, hm⟩ := bindE hm
  refine w_cut (fun a' w' => Fr 30 [(3, [], .slice (some ⟨b7, 0, none⟩) ((ofB s).length) c8)] a' ∧ Kp [] w w' ∧ Rw .u8 w' b7 z11 ∧ ln z11 = ln (ofB s)) ?_ ?_
  · replace hm := hz
    refine s_reg [] [3, 8, 9, 10] [(3, [], .slice (some ⟨b7, 0, none⟩) ((ofB s).length) c8), (8, [], .slice (some ⟨b7, 0, none⟩) ((ofB s).length) c8), (9, [], .int .i64 (ln (ofB s))), (10, [], .int .i64 0)] [] H10 (by kernel_rfl) trivial fun _ w12 H13 hb => ?_
    clear H10
    replace hk_b7 := hk_b7.below hb
    replace hB := hB.step hb
    clear hb
    refine w_block ?_
    refine w_loop (fun m a' w' => ∃ (v14 : Int) (v15 : List Int), input_Lower_L1 s m v14 v15 = some _ ∧ Fr 30 [(3, [], .slice (some ⟨b7, 0, none⟩) ((ofB s).length) c8), (8, [], .slice (some ⟨b7, 0, none⟩) ((ofB s).length) c8), (9, [], .int .i64 (ln (ofB s))), (10, [], .int .i64 v14)] a' ∧ Kp [] w w' ∧ Rw .u8 w' b7 v15 ∧ ln v15 = ln (ofB s)) ⟨_, 0, ofB s, hm, Fr.keep (ks := [3, 8, 9, 10]) H13 (by kernel_rfl), hB, hk_b7, hl_b7⟩ ?_
    clear hm H13 hB hk_b7 hl_b7
    rintro m _ w33 ⟨v14, v15, hm, H, hB, hk_b7, hl_b7⟩
    cases m with
    | zero => exact noneE hm
    | succ m =>
      rw [input_Lower_L1] at hm
      refine s_reg [] [3, 8, 9, 10, 11] [(3, [], .slice (some ⟨b7, 0, none⟩) ((ofB s).length) c8), (8, [], .slice (some ⟨b7, 0, none⟩) ((ofB s).length) c8), (9, [], .int .i64 (ln (ofB s))), (10, [], .int .i64 v14), (11, [], .bool (decide (v14 < (ln (ofB s)))))] [] H (by kernel_rfl) trivial fun _ w16 H17 hb => ?_
      clear H
      replace hk_b7 := hk_b7.below hb
      replace hB := hB.step hb
      clear hb
      refine w_seq ?_
      refine w_if H17 rfl (fun hc => ?_) (fun hc => ?_)
      · replace hm := bT hc hm
        refine w_skip ?_
        obtain ⟨z18, hz, hm⟩ := bindE hm
        refine w_cut (fun a' w' => Fr 30 [(3, [], .slice (some ⟨b7, 0, none⟩) ((ofB s).length) c8), (8, [], .slice (some ⟨b7, 0, none⟩) ((ofB s).length) c8), (9, [], .int .i64 (ln (ofB s))), (10, [], .int .i64 v14)] a' ∧ Kp [] w w' ∧ Rw .u8 w' b7 z18 ∧ ln z18 = ln (ofB s)) ?_ ?_
        · replace hm := hz
          refine w_block ?_
          obtain ⟨ho19, hm⟩ := chkE hm
          refine s_reg [(.int .u8 (gi v15 v14))] [3, 4, 5, 8, 9, 10] [(3, [], .slice (some ⟨b7, 0, none⟩) ((ofB s).length) c8), (4, [], .int .i64 v14), (5, [], .int .u8 (gi v15 v14)), (8, [], .slice (some ⟨b7, 0, none⟩) ((ofB s).length) c8), (9, [], .int .i64 (ln (ofB s))), (10, [], .int .i64 v14)] [fun _ => oka (some ⟨b7, 0, none⟩) ∧ 0 ≤ v14 ∧ v14 < ln (ofB s), fun wz => V.at1 ⟨b7, 0 + (v14).toNat * 1, none⟩ (.int .u8 (gi v15 v14)) wz] H17 (by kernel_rfl) ⟨(⟨rfl, ho19⟩), (hk_b7.at1 (rwb ho19 hl_b7).1 (rwb ho19 hl_b7).2), trivial⟩ fun _ w20 H21 hb => ?_
          clear H17
          replace hk_b7 := hk_b7.below hb
          replace hB := hB.step hb
          clear hb
          obtain ⟨x22, hx22, hm⟩ := letE hm
          refine s_reg [] [3, 4, 8, 9, 10, 20] [(3, [], .slice (some ⟨b7, 0, none⟩) ((ofB s).length) c8), (4, [], .int .i64 v14), (8, [], .slice (some ⟨b7, 0, none⟩) ((ofB s).length) c8), (9, [], .int .i64 (ln (ofB s))), (10, [], .int .i64 v14), (20, [], .bool x22)] [] H21 (by subst hx22; kernel_rfl) trivial fun _ w23 H24 hb => ?_
          clear H21
          replace hk_b7 := hk_b7.below hb
          replace hB := hB.step hb
          clear hb
          refine w_if H24 rfl (fun hc => ?_) (fun hc => ?_)
          · replace hm := bT hc hm
            refine wl_start ?_
            refine wl_batch 0 6 [(.int .u8 (gi v15 v14))] [3, 8, 9, 10, 25, 26] [(3, [], .slice (some ⟨b7, 0, none⟩) ((ofB s).length) c8), (8, [], .slice (some ⟨b7, 0, none⟩) ((ofB s).length) c8), (9, [], .int .i64 (ln (ofB s))), (10, [], .int .i64 v14), (25, [], .int .u8 (ibit .or .u8 (gi v15 v14) 32)), (26, [], .pointer (some ⟨b7, 0 + (v14).toNat * 1, none⟩))] [fun _ => oka (some ⟨b7, 0, none⟩) ∧ 0 ≤ v14 ∧ v14 < ln (ofB s), fun wz => V.at1 ⟨b7, 0 + (v14).toNat * 1, none⟩ (.int .u8 (gi v15 v14)) wz, fun _ => oka (some ⟨b7, 0, none⟩) ∧ 0 ≤ v14 ∧ v14 < ln (ofB s)] H24 (by decide) (by kernel_rfl) ⟨(⟨rfl, ho19⟩), (hk_b7.at1 (rwb ho19 hl_b7).1 (rwb ho19 hl_b7).2), (⟨rfl, ho19⟩), trivial⟩ fun _ w25 H26 hb => ?_
            clear H24
            replace hk_b7 := hk_b7.below hb
            replace hB := hB.step hb
            clear hb
            refine m_rstore [3, 8, 9, 10] [(3, [], .slice (some ⟨b7, 0, none⟩) ((ofB s).length) c8), (8, [], .slice (some ⟨b7, 0, none⟩) ((ofB s).length) c8), (9, [], .int .i64 (ln (ofB s))), (10, [], .int .i64 v14)] H26 rfl rfl rfl hk_b7 (by kernel_rfl) (rwb ho19 hl_b7) rfl fun _ w27 H28 hq hk => ?_
            clear H26
            obtain ⟨q29, hq29, hm⟩ := letE hm
            rw [← hq29] at hk
            replace hl_b7 : ln q29 = ln (ofB s) := (by rw [hq29, ln_seti]; exact hl_b7)
            replace hB := hB.trans hq (loc1 hlo_b7)
            clear hq
            replace hk_b7 := hk
            clear hk
            refine wl_end rfl ?_
            obtain rfl := someE hm
            exact ⟨Fr.keep (ks := [3, 8, 9, 10]) H28 (by kernel_rfl), hB, hk_b7, hl_b7⟩
          · replace hm := bF hc hm
            refine w_skip ?_
            obtain rfl := someE hm
            exact ⟨Fr.keep (ks := [3, 8, 9, 10]) H24 (by kernel_rfl), hB, hk_b7, hl_b7⟩
        · rintro _ w32 ⟨H, hB, hk_b7, hl_b7⟩
          refine w_reg [] [3, 8, 9, 10] [(3, [], .slice (some ⟨b7, 0, none⟩) ((ofB s).length) c8), (8, [], .slice (some ⟨b7, 0, none⟩) ((ofB s).length) c8), (9, [], .int .i64 (ln (ofB s))), (10, [], .int .i64 (w64 (v14 + 1)))] [] H (by kernel_rfl) trivial fun _ w30 H31 hb => ?_
          clear H
          replace hk_b7 := hk_b7.below hb
          replace hB := hB.step hb
          clear hb
          exact ⟨_, Nat.lt_succ_self _, w64 (v14 + 1), z18, hm, Fr.keep (ks := [3, 8, 9, 10]) H31 (by kernel_rfl), hB, hk_b7, hl_b7⟩
      · replace hm := bF hc hm
        refine w_exit rfl ?_
        obtain rfl := someE hm
        exact ⟨Fr.keep (ks := [3]) H17 (by kernel_rfl), hB, hk_b7, hl_b7⟩
  · rintro _ w36 ⟨H, hB, hk_b7, hl_b7⟩
    refine s_reg [(.string ⟨⟨toB z11⟩⟩)] [2] [(2, [], .string ⟨⟨toB z11⟩⟩)] [fun wz => ∀ w', Below wz.heap.size wz w' → (convert 41 9 (.slice (some ⟨b7, 0, none⟩) ((ofB s).length) c8)).run Try.prog w' = .ok (.string ⟨⟨toB z11⟩⟩) w'] H (by kernel_rfl) ⟨(conv_row (E := 5) (by kernel_rfl) (by kernel_rfl) (by kernel_rfl) hk_b7 hl_b7), trivial⟩ fun _ w34 H35 hb => ?_
    clear H
    replace hk_b7 := hk_b7.below hb
    replace hB := hB.step hb
    clear hb
    refine w_ret ?_
    obtain rfl := someE hm
    exact ret1 H35 rfl rfl ⟨rfl, hB.below⟩
theorem input_Lower_ok  (s : Str) (r : Str) (hm : input_Lower s = some r) : Ret Try.prog 11 ⟨[.string ⟨⟨s⟩⟩]⟩ (.string ⟨⟨r⟩⟩) := ret_of (Try.call11 _) (input_Lower_w s r hm)

def r01_Lower_L1 (s : Str) : Nat → Int → (List Int) → Option (List Int)
  | 0, _, _ => none
  | m + 1, v14, v15 =>
    cond (decide (v14 < (ln (ofB s)))) (
    chk (0 ≤ v14 ∧ v14 < ln (ofB s)) <|
    lt (seti v15 v14 (r01_Small (gi v15 v14))) fun q23 =>
    r01_Lower_L1 s m (w64 (v14 + 1)) q23) (
    some v15)
def r01_Lower (s : Str) : Option (Str) :=
  Option.bind (
  r01_Lower_L1 s ((ln (ofB s) - 0).toNat + 1) 0 (ofB s)) fun (z11 : List Int) =>
  some (toB z11)
theorem r01_Lower_w  (s : Str) (r : Str) (hm : r01_Lower s = some r) (w : World)  : Calls Try.prog 12 ⟨[.string ⟨⟨s⟩⟩]⟩ w (V.Pure (.string ⟨⟨r⟩⟩) w) := by
  rw [r01_Lower] at hm
  refine calls_entry Try.func12 rfl Try.ntmps12 rfl fun _ H => ?_
  have hB := Kp.refl [] w
  refine s_reg [] [0] [(0, [], .string ⟨⟨s⟩⟩)] [] H (by kernel_rfl) trivial fun _ w1 H2 hb => ?_
  clear H
  replace hB := hB.step hb
  clear hb
  refine w_seq ?_
  refine wl_start ?_
  refine wl_batch 0 1 [] [5] [(5, [], .string ⟨⟨s⟩⟩)] [] H2 (by decide) (by kernel_rfl) trivial fun _ w3 H4 hb => ?_
  clear H2
  replace hB := hB.step hb
  clear hb
  refine m_bytes (E := 5) [6] [] H4 rfl rfl (by kernel_rfl) (by kernel_rfl) (by kernel_rfl) rfl (fun _ _ => rfl) fun _ w5 b7 c8 H6 hq heq hk_b7 => ?_
  clear H4
  have hlo_b7 : w.heap.size ≤ b7 := by have := hB.size; omega
  replace hB := hB.step0 hq
  clear hq heq
  have hl_b7 : ln (ofB s) = ln (ofB s) := rfl
  refine wl_batch 2 3 [] [3] [(3, [], .slice (some ⟨b7, 0, none⟩) ((ofB s).length) c8)] [] H6 (by decide) (by kernel_rfl) trivial fun _ w9 H10 hb => ?_
  clear H6
  replace hk_b7 := hk_b7.below hb
  replace hB := hB.step hb
  clear hb
  refine wl_end rfl ?_
  obtain ⟨z11, hz, hm⟩ := bindE hm
  refine w_cut (fun a' w' => Fr 23 [(3, [], .slice (some ⟨b7, 0, none⟩) ((ofB s).length) c8)] a' ∧ Kp [] w w' ∧ Rw .u8 w' b7 z11 ∧ ln z11 = ln (ofB s)) ?_ ?_
  · replace hm := hz
    refine s_reg [] [3, 4] [(3, [], .slice (some ⟨b7, 0, none⟩) ((ofB s).length) c8), (4, [], .int .i64 0)] [] H10 (by kernel_rfl) trivial fun _ w12 H13 hb => ?_
    clear H10
    replace hk_b7 := hk_b7.below hb
    replace hB := hB.step hb
    clear hb
    refine w_block ?_
    refine w_loop (fun m a' w' => ∃ (v14 : Int) (v15 : List Int), r01_Lower_L1 s m v14 v15 = some _ ∧ Fr 23 [(3, [], .slice (some ⟨b7, 0, none⟩) ((ofB s).length) c8), (4, [], .int .i64 v14)] a' ∧ Kp [] w w' ∧ Rw .u8 w' b7 v15 ∧ ln v15 = ln (ofB s)) ⟨_, 0, ofB s, hm, Fr.keep (ks := [3, 4]) H13 (by kernel_rfl), hB, hk_b7, hl_b7⟩ ?_
    clear hm H13 hB hk_b7 hl_b7
    rintro m _ w26 ⟨v14, v15, hm, H, hB, hk_b7, hl_b7⟩
    cases m with
    | zero => exact noneE hm
    | succ m =>
      rw [r01_Lower_L1] at hm
      refine w_seq ?_
      refine s_reg [] [3, 4, 10] [(3, [], .slice (some ⟨b7, 0, none⟩) ((ofB s).length) c8), (4, [], .int .i64 v14), (10, [], .bool (decide (v14 < (ln (ofB s)))))] [] H (by kernel_rfl) trivial fun _ w16 H17 hb => ?_
      clear H
      replace hk_b7 := hk_b7.below hb
      replace hB := hB.step hb
      clear hb
      refine w_if H17 rfl (fun hc => ?_) (fun hc => ?_)
      · replace hm := bT hc hm
        refine w_skip ?_
        refine w_seq ?_
        refine w_block ?_
        refine wl_start ?_
        obtain ⟨ho18, hm⟩ := chkE hm
        refine wl_batch 0 8 [(.int .u8 (gi v15 v14)), (.int .u8 (r01_Small (gi v15 v14)))] [3, 4, 19, 20] [(3, [], .slice (some ⟨b7, 0, none⟩) ((ofB s).length) c8), (4, [], .int .i64 v14), (19, [], .int .u8 (r01_Small (gi v15 v14))), (20, [], .pointer (some ⟨b7, 0 + (v14).toNat * 1, none⟩))] [fun _ => oka (some ⟨b7, 0, none⟩) ∧ 0 ≤ v14 ∧ v14 < ln (ofB s), fun wz => V.at1 ⟨b7, 0 + (v14).toNat * 1, none⟩ (.int .u8 (gi v15 v14)) wz, fun wz => RetB Try.prog 25 ⟨[.int .u8 (gi v15 v14)]⟩ (.int .u8 (r01_Small (gi v15 v14))) wz, fun _ => oka (some ⟨b7, 0, none⟩) ∧ 0 ≤ v14 ∧ v14 < ln (ofB s)] H17 (by decide) (by kernel_rfl) ⟨(⟨rfl, ho18⟩), (hk_b7.at1 (rwb ho18 hl_b7).1 (rwb ho18 hl_b7).2), (r01_Small_ok _).b, (⟨rfl, ho18⟩), trivial⟩ fun _ w19 H20 hb => ?_
        clear H17
        replace hk_b7 := hk_b7.below hb
        replace hB := hB.step hb
        clear hb
        refine m_rstore [3, 4] [(3, [], .slice (some ⟨b7, 0, none⟩) ((ofB s).length) c8), (4, [], .int .i64 v14)] H20 rfl rfl rfl hk_b7 (by kernel_rfl) (rwb ho18 hl_b7) rfl fun _ w21 H22 hq hk => ?_
        clear H20
        obtain ⟨q23, hq23, hm⟩ := letE hm
        rw [← hq23] at hk
        replace hl_b7 : ln q23 = ln (ofB s) := (by rw [hq23, ln_seti]; exact hl_b7)
        replace hB := hB.trans hq (loc1 hlo_b7)
        clear hq
        replace hk_b7 := hk
        clear hk
        refine wl_end rfl ?_
        refine w_reg [] [3, 4] [(3, [], .slice (some ⟨b7, 0, none⟩) ((ofB s).length) c8), (4, [], .int .i64 (w64 (v14 + 1)))] [] H22 (by kernel_rfl) trivial fun _ w24 H25 hb => ?_
        clear H22
        replace hk_b7 := hk_b7.below hb
        replace hB := hB.step hb
        clear hb
        exact ⟨_, Nat.lt_succ_self _, w64 (v14 + 1), q23, hm, Fr.keep (ks := [3, 4]) H25 (by kernel_rfl), hB, hk_b7, hl_b7⟩
      · replace hm := bF hc hm
        refine w_exit rfl ?_
        obtain rfl := someE hm
        exact ⟨Fr.keep (ks := [3]) H17 (by kernel_rfl), hB, hk_b7, hl_b7⟩
  · rintro _ w29 ⟨H, hB, hk_b7, hl_b7⟩
    refine s_reg [(.string ⟨⟨toB z11⟩⟩)] [2] [(2, [], .string ⟨⟨toB z11⟩⟩)] [fun wz => ∀ w', Below wz.heap.size wz w' → (convert 41 9 (.slice (some ⟨b7, 0, none⟩) ((ofB s).length) c8)).run Try.prog w' = .ok (.string ⟨⟨toB z11⟩⟩) w'] H (by kernel_rfl) ⟨(conv_row (E := 5) (by kernel_rfl) (by kernel_rfl) (by kernel_rfl) hk_b7 hl_b7), trivial⟩ fun _ w27 H28 hb => ?_
    clear H
    replace hk_b7 := hk_b7.below hb
    replace hB := hB.step hb
    clear hb
    refine w_ret ?_
    obtain rfl := someE hm
    exact ret1 H28 rfl rfl ⟨rfl, hB.below⟩
theorem r01_Lower_ok  (s : Str) (r : Str) (hm : r01_Lower s = some r) : Ret Try.prog 12 ⟨[.string ⟨⟨s⟩⟩]⟩ (.string ⟨⟨r⟩⟩) := ret_of (Try.call12 _) (r01_Lower_w s r hm)

def input_Alike (a_ : Str) (b : Str) : Option (Bool) :=
  Option.bind (input_Lower a_) fun y3 =>
  Option.bind (input_Lower b) fun y4 =>
  some (y3 == y4)
theorem input_Alike_w  (a_ : Str) (b : Str) (r : Bool) (hm : input_Alike a_ b = some r) (w : World)  : Calls Try.prog 13 ⟨[.string ⟨⟨a_⟩⟩, .string ⟨⟨b⟩⟩]⟩ w (V.Pure (.bool r) w) := by
  rw [input_Alike] at hm
  refine calls_entry Try.func13 rfl Try.ntmps13 rfl fun _ H => ?_
  have hB := Kp.refl [] w
  refine s_reg [] [0, 1] [(0, [], .string ⟨⟨a_⟩⟩), (1, [], .string ⟨⟨b⟩⟩)] [] H (by kernel_rfl) trivial fun _ w1 H2 hb => ?_
  clear H
  replace hB := hB.step hb
  clear hb
  obtain ⟨y3, hy3, hm⟩ := bindE hm
  obtain ⟨y4, hy4, hm⟩ := bindE hm
  refine s_reg [(.string ⟨⟨y3⟩⟩), (.string ⟨⟨y4⟩⟩)] [4] [(4, [], .bool (y3 == y4))] [fun wz => RetB Try.prog 11 ⟨[.string ⟨⟨a_⟩⟩]⟩ (.string ⟨⟨y3⟩⟩) wz, fun wz => RetB Try.prog 11 ⟨[.string ⟨⟨b⟩⟩]⟩ (.string ⟨⟨y4⟩⟩) wz] H2 (by kernel_rfl) ⟨(input_Lower_ok _ _ hy3).b, (input_Lower_ok _ _ hy4).b, trivial⟩ fun _ w5 H6 hb => ?_
  clear H2
  replace hB := hB.step hb
  clear hb
  refine w_ret ?_
  obtain rfl := someE hm
  exact ret1 H6 rfl rfl ⟨rfl, hB.below⟩
theorem input_Alike_ok  (a_ : Str) (b : Str) (r : Bool) (hm : input_Alike a_ b = some r) : Ret Try.prog 13 ⟨[.string ⟨⟨a_⟩⟩, .string ⟨⟨b⟩⟩]⟩ (.bool r) := ret_of (Try.call13 _) (input_Alike_w a_ b r hm)

def r01_Alike (a_ : Str) (b : Str) : Option (Bool) :=
  Option.bind (r01_Lower a_) fun y3 =>
  Option.bind (r01_Lower b) fun y4 =>
  some (y3 == y4)
theorem r01_Alike_w  (a_ : Str) (b : Str) (r : Bool) (hm : r01_Alike a_ b = some r) (w : World)  : Calls Try.prog 14 ⟨[.string ⟨⟨a_⟩⟩, .string ⟨⟨b⟩⟩]⟩ w (V.Pure (.bool r) w) := by
  rw [r01_Alike] at hm
  refine calls_entry Try.func14 rfl Try.ntmps14 rfl fun _ H => ?_
  have hB := Kp.refl [] w
  refine s_reg [] [0, 1] [(0, [], .string ⟨⟨a_⟩⟩), (1, [], .string ⟨⟨b⟩⟩)] [] H (by kernel_rfl) trivial fun _ w1 H2 hb => ?_
  clear H
  replace hB := hB.step hb
  clear hb
  obtain ⟨y3, hy3, hm⟩ := bindE hm
  obtain ⟨y4, hy4, hm⟩ := bindE hm
  refine s_reg [(.string ⟨⟨y3⟩⟩), (.string ⟨⟨y4⟩⟩)] [4] [(4, [], .bool (y3 == y4))] [fun wz => RetB Try.prog 12 ⟨[.string ⟨⟨a_⟩⟩]⟩ (.string ⟨⟨y3⟩⟩) wz, fun wz => RetB Try.prog 12 ⟨[.string ⟨⟨b⟩⟩]⟩ (.string ⟨⟨y4⟩⟩) wz] H2 (by kernel_rfl) ⟨(r01_Lower_ok _ _ hy3).b, (r01_Lower_ok _ _ hy4).b, trivial⟩ fun _ w5 H6 hb => ?_
  clear H2
  replace hB := hB.step hb
  clear hb
  refine w_ret ?_
  obtain rfl := someE hm
  exact ret1 H6 rfl rfl ⟨rfl, hB.below⟩
theorem r01_Alike_ok  (a_ : Str) (b : Str) (r : Bool) (hm : r01_Alike a_ b = some r) : Ret Try.prog 14 ⟨[.string ⟨⟨a_⟩⟩, .string ⟨⟨b⟩⟩]⟩ (.bool r) := ret_of (Try.call14 _) (r01_Alike_w a_ b r hm)

def law01_InputSmall (a_ : Str) (b : Str) : Option (Bool) :=
  lt (cond (decide (500 < (ln a_))) true (decide (500 < (ln b)))) fun x3 =>
  cond x3 (
  some true) (
  Option.bind (input_Lower a_) fun y8 =>
  Option.bind (r01_Lower a_) fun y9 =>
  Option.bind (cond (y8 == y9) (input_Alike a_ b) (some default)) fun y10 =>
  Option.bind (cond (y8 == y9) (r01_Alike a_ b) (some default)) fun y11 =>
  some (cond (y8 == y9) (y10 == y11) false))
theorem law01_InputSmall_w  (a_ : Str) (b : Str) (r : Bool) (hm : law01_InputSmall a_ b = some r) (w : World)  : Calls Try.prog 3 ⟨[.string ⟨⟨a_⟩⟩, .string ⟨⟨b⟩⟩]⟩ w (V.Pure (.bool r) w) := by
  rw [law01_InputSmall] at hm
  refine calls_entry Try.func3 rfl Try.ntmps3 rfl fun _ H => ?_
  have hB := Kp.refl [] w
  refine s_reg [] [0, 1] [(0, [], .string ⟨⟨a_⟩⟩), (1, [], .string ⟨⟨b⟩⟩)] [] H (by kernel_rfl) trivial fun _ w1 H2 hb => ?_
  clear H
  replace hB := hB.step hb
  clear hb
  refine w_seq ?_
  obtain ⟨x3, hx3, hm⟩ := letE hm
  refine s_reg [] [0, 1, 12] [(0, [], .string ⟨⟨a_⟩⟩), (1, [], .string ⟨⟨b⟩⟩), (12, [], .bool x3)] [] H2 (by subst hx3; kernel_rfl) trivial fun _ w4 H5 hb => ?_
  clear H2
  replace hB := hB.step hb
  clear hb
  refine w_if H5 rfl (fun hc => ?_) (fun hc => ?_)
  · replace hm := bT hc hm
    refine s_reg [] [4] [(4, [], .bool true)] [] H5 (by kernel_rfl) trivial fun _ w6 H7 hb => ?_
    clear H5
    replace hB := hB.step hb
    clear hb
    refine w_ret ?_
    obtain rfl := someE hm
    exact ret1 H7 rfl rfl ⟨rfl, hB.below⟩
  · replace hm := bF hc hm
    refine w_skip ?_
    obtain ⟨y8, hy8, hm⟩ := bindE hm
    obtain ⟨y9, hy9, hm⟩ := bindE hm
    obtain ⟨y10, hy10, hm⟩ := bindE hm
    obtain ⟨y11, hy11, hm⟩ := bindE hm
    refine s_reg [(.string ⟨⟨y8⟩⟩), (.string ⟨⟨y9⟩⟩), (.bool y10), (.bool y11)] [4] [(4, [], .bool (cond (y8 == y9) (y10 == y11) false))] [fun wz => RetB Try.prog 11 ⟨[.string ⟨⟨a_⟩⟩]⟩ (.string ⟨⟨y8⟩⟩) wz, fun wz => RetB Try.prog 12 ⟨[.string ⟨⟨a_⟩⟩]⟩ (.string ⟨⟨y9⟩⟩) wz, fun wz => ((y8 == y9) = true ∧ True → RetB Try.prog 13 ⟨[.string ⟨⟨a_⟩⟩, .string ⟨⟨b⟩⟩]⟩ (.bool y10) wz), fun wz => ((y8 == y9) = true ∧ True → RetB Try.prog 14 ⟨[.string ⟨⟨a_⟩⟩, .string ⟨⟨b⟩⟩]⟩ (.bool y11) wz)] H5 (by kernel_rfl) ⟨(input_Lower_ok _ _ hy8).b, (r01_Lower_ok _ _ hy9).b, fun hg => (input_Alike_ok _ _ _ (bT (hg.1) hy10)).b, fun hg => (r01_Alike_ok _ _ _ (bT (hg.1) hy11)).b, trivial⟩ fun _ w12 H13 hb => ?_
    clear H5
    replace hB := hB.step hb
    clear hb
    refine w_ret ?_
    obtain rfl := someE hm
    exact ret1 H13 rfl rfl ⟨rfl, hB.below⟩
theorem law01_InputSmall_ok  (a_ : Str) (b : Str) (r : Bool) (hm : law01_InputSmall a_ b = some r) : Ret Try.prog 3 ⟨[.string ⟨⟨a_⟩⟩, .string ⟨⟨b⟩⟩]⟩ (.bool r) := ret_of (Try.call3 _) (law01_InputSmall_w a_ b r hm)

end Go.Proofs.Ytihckkbhieblkaa
