/-
  What the Go functions compute, as Lean functions, and that a call returns just that. Printed by a program.
-/
import Derived.Test.YtbealjlgbfpadaaDoorRows
import Derived.Test.YtbealjlgbfpadaaDoorD
import Derived.Test.YtbealjlgbfpadaaDoorX
set_option linter.unusedVariables false
set_option maxRecDepth 20000
set_option maxHeartbeats 4000000
namespace Go.Proofs.YtbealjlgbfpadaaDoor
open Go.V Go.RowKit

def token_scanner_peek (c_s : Str) (c_at_ : Int) (n_ : Int) : Option (Int) :=
  cond (decide ((w64 (c_at_ + n_)) < (ln c_s))) (
  chk (0 ≤ (w64 (c_at_ + n_)) ∧ (w64 (c_at_ + n_)) < ln c_s) <|
  some (w64 (bat c_s (w64 (c_at_ + n_))))) (
  some (-1))
theorem token_scanner_peek_w {b_c : Nat} (M : Av) (c_s : Str) (c_at_ : Int) (n_ : Int) (r : Int) (hm : token_scanner_peek c_s c_at_ n_ = some r) (w : World) (hS : S0 M [Ent.ro b_c [.string ⟨⟨c_s⟩⟩, .int .i64 c_at_]] w) : Calls Tryd.prog 37 ⟨[.pointer (some ⟨b_c, 0, none⟩), .int .i64 n_]⟩ w (fun e w' => ∃ v, e = .returned v ∧ v = .int .i64 r ∧ SH M (fpl [Ent.ro b_c [.string ⟨⟨c_s⟩⟩, .int .i64 c_at_]]) w [] w') := by
  rw [token_scanner_peek] at hm
  have hS0 : SH M (fpl [Ent.ro b_c [.string ⟨⟨c_s⟩⟩, .int .i64 c_at_]]) w [Ent.ro b_c [.string ⟨⟨c_s⟩⟩, .int .i64 c_at_]] w := hS
  generalize hX : fpl [Ent.ro b_c [.string ⟨⟨c_s⟩⟩, .int .i64 c_at_]] = X at hS0 ⊢
  clear hS hX
  have hS := hS0
  clear hS0
  refine calls_entryP Tryd.func37 rfl Tryd.ntmps37 rfl fun _ H => ?_
  refine s_reg [] [0, 1] [(0, [], .pointer (some ⟨b_c, 0, none⟩)), (1, [], .int .i64 n_)] [] H (by kernel_rfl) trivial fun _ wd1 H2 hb => ?_
  clear H
  replace hS := hS.below hb
  clear hb
  refine w_seq ?_
  refine s_draw [(.int .i64 c_at_), (.string ⟨⟨c_s⟩⟩)] [0, 1, 16] [(0, [], .pointer (some ⟨b_c, 0, none⟩)), (1, [], .int .i64 n_), (16, [], .bool (decide ((w64 (c_at_ + n_)) < (ln c_s))))] [fun wz => V.at1 ⟨b_c, 1, none⟩ (.int .i64 c_at_) wz, fun wz => V.at1 ⟨b_c, 0, none⟩ (.string ⟨⟨c_s⟩⟩) wz] H2 (by kernel_rfl) (by kernel_rfl) (by kernel_rfl) ⟨((hS.ro 0 rfl).at1 rfl), ((hS.ro 0 rfl).at1 rfl), trivial⟩ fun _ wd3 H4 hb => ?_
  clear H2
  replace hS := hS.below hb
  clear hb
  refine w_if H4 rfl (fun hc => ?_) (fun hc => ?_)
  · replace hm := bT hc hm
    obtain ⟨ho5, hm⟩ := chkE hm
    refine s_draw [(.string ⟨⟨c_s⟩⟩), (.int .i64 c_at_)] [4] [(4, [], .int .i64 (w64 (bat c_s (w64 (c_at_ + n_)))))] [fun wz => V.at1 ⟨b_c, 0, none⟩ (.string ⟨⟨c_s⟩⟩) wz, fun wz => V.at1 ⟨b_c, 1, none⟩ (.int .i64 c_at_) wz, fun _ => 0 ≤ (w64 (c_at_ + n_)) ∧ (w64 (c_at_ + n_)) < ln c_s] H4 (by kernel_rfl) (by kernel_rfl) (by kernel_rfl) ⟨((hS.ro 0 rfl).at1 rfl), ((hS.ro 0 rfl).at1 rfl), ho5, trivial⟩ fun _ wd6 H7 hb => ?_
    clear H4
    replace hS := hS.below hb
    clear hb
    replace hS : SH M X w [] _ := hS.sel [] rfl
    refine w_ret ?_
    obtain rfl := someE hm
    exact retR1 H7 rfl rfl ⟨_, rfl, rfl, (hS.sel [] rfl)⟩
  · replace hm := bF hc hm
    refine w_skip ?_
    refine s_reg [] [4] [(4, [], .int .i64 (-1))] [] H4 (by kernel_rfl) trivial fun _ wd8 H9 hb => ?_
    clear H4
    replace hS := hS.below hb
    clear hb
    replace hS : SH M X w [] _ := hS.sel [] rfl
    refine w_ret ?_
    obtain rfl := someE hm
    exact retR1 H9 rfl rfl ⟨_, rfl, rfl, (hS.sel [] rfl)⟩
theorem token_scanner_peek_ok {b_c : Nat} (c_s : Str) (c_at_ : Int) (n_ : Int) (r : Int) (hm : token_scanner_peek c_s c_at_ n_ = some r) (w : World) (hL : S0 F0 [Ent.ro b_c [.string ⟨⟨c_s⟩⟩, .int .i64 c_at_]] w ∧ fpl [Ent.ro b_c [.string ⟨⟨c_s⟩⟩, .int .i64 c_at_]] = []) : RetB Tryd.prog 37 ⟨[.pointer (some ⟨b_c, 0, none⟩), .int .i64 n_]⟩ (.int .i64 r) w := retB_of hL (Tryd.call37 _) (fun w' h => token_scanner_peek_w F0   c_s c_at_ n_ r hm w' h)

def token_within (b_ : Int) (from_ : Int) (to : Int) : Bool :=
  lt (cond (decide (from_ ≤ b_)) (decide (b_ ≤ to)) false) fun x3 =>
  x3
theorem token_within_w  (M : Av) (b_ : Int) (from_ : Int) (to : Int) (r : Bool) (hm : token_within b_ from_ to = r) (w : World) (hS : S0 M [] w) : Calls Tryd.prog 47 ⟨[.int .i64 b_, .int .i64 from_, .int .i64 to]⟩ w (fun e w' => ∃ v, e = .returned v ∧ v = .bool r ∧ SH M (fpl []) w [] w') := by
  rw [token_within] at hm
  have hS0 : SH M (fpl []) w [] w := hS
  generalize hX : fpl [] = X at hS0 ⊢
  clear hS hX
  have hS := hS0
  clear hS0
  refine calls_entryP Tryd.func47 rfl Tryd.ntmps47 rfl fun _ H => ?_
  refine s_reg [] [0, 1, 2] [(0, [], .int .i64 b_), (1, [], .int .i64 from_), (2, [], .int .i64 to)] [] H (by kernel_rfl) trivial fun _ wd1 H2 hb => ?_
  clear H
  replace hS := hS.below hb
  clear hb
  obtain ⟨x3, hx3, hm⟩ := letE hm
  refine s_reg [] [6] [(6, [], .bool x3)] [] H2 (by subst hx3; kernel_rfl) trivial fun _ wd4 H5 hb => ?_
  clear H2
  replace hS := hS.below hb
  clear hb
  refine w_ret ?_
  subst hm
  exact retR1 H5 rfl rfl ⟨_, rfl, rfl, (hS.sel [] rfl)⟩
theorem token_within_ok  (b_ : Int) (from_ : Int) (to : Int) : Ret Tryd.prog 47 ⟨[.int .i64 b_, .int .i64 from_, .int .i64 to]⟩ (.bool (token_within b_ from_ to)) := retP_of (Tryd.call47 _) (fun w h => token_within_w F0   b_ from_ to _ rfl w h)

def token_digit (b_ : Int) : Bool :=
  (token_within b_ 48 57)
theorem token_digit_w  (M : Av) (b_ : Int) (r : Bool) (hm : token_digit b_ = r) (w : World) (hS : S0 M [] w) : Calls Tryd.prog 38 ⟨[.int .i64 b_]⟩ w (fun e w' => ∃ v, e = .returned v ∧ v = .bool r ∧ SH M (fpl []) w [] w') := by
  rw [token_digit] at hm
  have hS0 : SH M (fpl []) w [] w := hS
  generalize hX : fpl [] = X at hS0 ⊢
  clear hS hX
  have hS := hS0
  clear hS0
  refine calls_entryP Tryd.func38 rfl Tryd.ntmps38 rfl fun _ H => ?_
  refine s_reg [] [0] [(0, [], .int .i64 b_)] [] H (by kernel_rfl) trivial fun _ wd1 H2 hb => ?_
  clear H
  replace hS := hS.below hb
  clear hb
  refine s_reg [(.bool (token_within b_ 48 57))] [2] [(2, [], .bool (token_within b_ 48 57))] [fun wz => RetB Tryd.prog 47 ⟨[.int .i64 b_, .int .i64 48, .int .i64 57]⟩ (.bool (token_within b_ 48 57)) wz] H2 (by kernel_rfl) ⟨((token_within_ok _ _ _).b), trivial⟩ fun _ wd3 H4 hb => ?_
  clear H2
  replace hS := hS.below hb
  clear hb
  refine w_ret ?_
  subst hm
  exact retR1 H4 rfl rfl ⟨_, rfl, rfl, (hS.sel [] rfl)⟩
theorem token_digit_ok  (b_ : Int) : Ret Tryd.prog 38 ⟨[.int .i64 b_]⟩ (.bool (token_digit b_)) := retP_of (Tryd.call38 _) (fun w h => token_digit_w F0   b_ _ rfl w h)

def token_scanner_number (c_s : Str) (c_at_ : Int) : Option (Bool) :=
  Option.bind (
  Option.bind (token_scanner_peek c_s c_at_ 0) fun y6 =>
  cond (cond (y6 == 43) true (y6 == 45)) (
  some 1) (
  some 0)) fun (z5 : Int) =>
  Option.bind (
  Option.bind (token_scanner_peek c_s c_at_ z5) fun y14 =>
  cond (y14 == 46) (
  some (w64 (z5 + 1))) (
  some z5)) fun (z13 : Int) =>
  Option.bind (token_scanner_peek c_s c_at_ z13) fun y19 =>
  some (token_digit y19)
theorem token_scanner_number_w {b_c : Nat} (M : Av) (c_s : Str) (c_at_ : Int) (r : Bool) (hm : token_scanner_number c_s c_at_ = some r) (w : World) (hS : S0 M [Ent.ro b_c [.string ⟨⟨c_s⟩⟩, .int .i64 c_at_]] w) : Calls Tryd.prog 29 ⟨[.pointer (some ⟨b_c, 0, none⟩)]⟩ w (fun e w' => ∃ v, e = .returned v ∧ v = .bool r ∧ SH M (fpl [Ent.ro b_c [.string ⟨⟨c_s⟩⟩, .int .i64 c_at_]]) w [] w') := by
  rw [token_scanner_number] at hm
  have hS0 : SH M (fpl [Ent.ro b_c [.string ⟨⟨c_s⟩⟩, .int .i64 c_at_]]) w [Ent.ro b_c [.string ⟨⟨c_s⟩⟩, .int .i64 c_at_]] w := hS
  generalize hX : fpl [Ent.ro b_c [.string ⟨⟨c_s⟩⟩, .int .i64 c_at_]] = X at hS0 ⊢
  clear hS hX
  have hS := hS0
  clear hS0
  refine calls_entryP Tryd.func29 rfl Tryd.ntmps29 rfl fun _ H => ?_
  refine s_reg [] [0] [(0, [], .pointer (some ⟨b_c, 0, none⟩))] [] H (by kernel_rfl) trivial fun _ wd1 H2 hb => ?_
  clear H
  replace hS := hS.below hb
  clear hb
  refine s_reg [] [0, 3] [(0, [], .pointer (some ⟨b_c, 0, none⟩)), (3, [], .int .i64 0)] [] H2 (by kernel_rfl) trivial fun _ wd3 H4 hb => ?_
  clear H2
  replace hS := hS.below hb
  clear hb
  obtain ⟨z5, hz, hm⟩ := bindE hm
  refine w_cut (fun a' w' => Fr 25 [(0, [], .pointer (some ⟨b_c, 0, none⟩)), (3, [], .int .i64 z5)] a' ∧ SH M X w [Ent.ro b_c [.string ⟨⟨c_s⟩⟩, .int .i64 c_at_]] w') ?_ ?_
  · replace hm := hz
    obtain ⟨y6, hy6, hm⟩ := bindE hm
    refine s_reg [(.int .i64 y6)] [0, 3, 4] [(0, [], .pointer (some ⟨b_c, 0, none⟩)), (3, [], .int .i64 0), (4, [], .int .i64 y6)] [fun wz => RetB Tryd.prog 37 ⟨[.pointer (some ⟨b_c, 0, none⟩), .int .i64 0]⟩ (.int .i64 y6) wz] H4 (by kernel_rfl) ⟨(token_scanner_peek_ok (b_c := b_c) _ _ _ _ hy6 _ (s0ro s0nil (hS.ro 0 rfl))), trivial⟩ fun _ wd7 H8 hb => ?_
    clear H4
    replace hS := hS.below hb
    clear hb
    refine s_reg [] [0, 3, 12] [(0, [], .pointer (some ⟨b_c, 0, none⟩)), (3, [], .int .i64 0), (12, [], .bool (cond (y6 == 43) true (y6 == 45)))] [] H8 (by kernel_rfl) trivial fun _ wd9 H10 hb => ?_
    clear H8
    replace hS := hS.below hb
    clear hb
    refine w_if H10 rfl (fun hc => ?_) (fun hc => ?_)
    · replace hm := bT hc hm
      refine w_reg [] [0, 3] [(0, [], .pointer (some ⟨b_c, 0, none⟩)), (3, [], .int .i64 1)] [] H10 (by kernel_rfl) trivial fun _ wd11 H12 hb => ?_
      clear H10
      replace hS := hS.below hb
      clear hb
      obtain rfl := someE hm
      exact ⟨Fr.keep (ks := [0, 3]) H12 (by kernel_rfl), hS⟩
    · replace hm := bF hc hm
      refine w_skip ?_
      obtain rfl := someE hm
      exact ⟨Fr.keep (ks := [0, 3]) H10 (by kernel_rfl), hS⟩
  · rintro _ wd23 ⟨H, hS⟩
    obtain ⟨z13, hz, hm⟩ := bindE hm
    refine w_cut (fun a' w' => Fr 25 [(0, [], .pointer (some ⟨b_c, 0, none⟩)), (3, [], .int .i64 z13)] a' ∧ SH M X w [Ent.ro b_c [.string ⟨⟨c_s⟩⟩, .int .i64 c_at_]] w') ?_ ?_
    · replace hm := hz
      obtain ⟨y14, hy14, hm⟩ := bindE hm
      refine s_reg [(.int .i64 y14)] [0, 3, 18] [(0, [], .pointer (some ⟨b_c, 0, none⟩)), (3, [], .int .i64 z5), (18, [], .bool (y14 == 46))] [fun wz => RetB Tryd.prog 37 ⟨[.pointer (some ⟨b_c, 0, none⟩), .int .i64 z5]⟩ (.int .i64 y14) wz] H (by kernel_rfl) ⟨(token_scanner_peek_ok (b_c := b_c) _ _ _ _ hy14 _ (s0ro s0nil (hS.ro 0 rfl))), trivial⟩ fun _ wd15 H16 hb => ?_
      clear H
      replace hS := hS.below hb
      clear hb
      refine w_if H16 rfl (fun hc => ?_) (fun hc => ?_)
      · replace hm := bT hc hm
        refine w_reg [] [0, 3] [(0, [], .pointer (some ⟨b_c, 0, none⟩)), (3, [], .int .i64 (w64 (z5 + 1)))] [] H16 (by kernel_rfl) trivial fun _ wd17 H18 hb => ?_
        clear H16
        replace hS := hS.below hb
        clear hb
        obtain rfl := someE hm
        exact ⟨Fr.keep (ks := [0, 3]) H18 (by kernel_rfl), hS⟩
      · replace hm := bF hc hm
        refine w_skip ?_
        obtain rfl := someE hm
        exact ⟨Fr.keep (ks := [0, 3]) H16 (by kernel_rfl), hS⟩
    · rintro _ wd22 ⟨H, hS⟩
      obtain ⟨y19, hy19, hm⟩ := bindE hm
      refine s_reg [(.int .i64 y19), (.bool (token_digit y19))] [2] [(2, [], .bool (token_digit y19))] [fun wz => RetB Tryd.prog 37 ⟨[.pointer (some ⟨b_c, 0, none⟩), .int .i64 z13]⟩ (.int .i64 y19) wz, fun wz => RetB Tryd.prog 38 ⟨[.int .i64 y19]⟩ (.bool (token_digit y19)) wz] H (by kernel_rfl) ⟨(token_scanner_peek_ok (b_c := b_c) _ _ _ _ hy19 _ (s0ro s0nil (hS.ro 0 rfl))), ((token_digit_ok _).b), trivial⟩ fun _ wd20 H21 hb => ?_
      clear H
      replace hS := hS.below hb
      clear hb
      replace hS : SH M X w [] _ := hS.sel [] rfl
      refine w_ret ?_
      obtain rfl := someE hm
      exact retR1 H21 rfl rfl ⟨_, rfl, rfl, (hS.sel [] rfl)⟩
theorem token_scanner_number_ok {b_c : Nat} (c_s : Str) (c_at_ : Int) (r : Bool) (hm : token_scanner_number c_s c_at_ = some r) (w : World) (hL : S0 F0 [Ent.ro b_c [.string ⟨⟨c_s⟩⟩, .int .i64 c_at_]] w ∧ fpl [Ent.ro b_c [.string ⟨⟨c_s⟩⟩, .int .i64 c_at_]] = []) : RetB Tryd.prog 29 ⟨[.pointer (some ⟨b_c, 0, none⟩)]⟩ (.bool r) w := retB_of hL (Tryd.call29 _) (fun w' h => token_scanner_number_w F0   c_s c_at_ r hm w' h)

def token_scanner_while_L1 (m : Nat) (c_s : Str) : Nat → Int → Option (Int)
  | 0, _ => none
  | kk + 1, v1 =>
    Option.bind (token_scanner_peek c_s v1 0) fun y2 =>
    cond (token_digit y2) (
    token_scanner_while_L1 m c_s kk (w64 (v1 + 1))) (
    some v1)
def token_scanner_while (m : Nat) (c_s : Str) (c_at_ : Int) : Option (Int) :=
  token_scanner_while_L1 m c_s m c_at_
theorem token_scanner_while_w {b_c : Nat} (M : Av) (m : Nat) (c_s : Str) (c_at_ : Int) (r : Int) (hm : token_scanner_while m c_s c_at_ = some r) (w : World) (hS : S0 M [Ent.blk b_c [.string ⟨⟨c_s⟩⟩, .int .i64 c_at_]] w) : Calls Tryd.prog 39 ⟨[.pointer (some ⟨b_c, 0, none⟩), .func (.func 38) ⟨[]⟩ ⟨[]⟩]⟩ w (fun e w' => ∃ v, e = .returned v ∧ v = .tuple ⟨[]⟩ ∧ SH M (fpl [Ent.blk b_c [.string ⟨⟨c_s⟩⟩, .int .i64 c_at_]]) w [Ent.blk b_c [.string ⟨⟨c_s⟩⟩, .int .i64 r]] w') := by
  rw [token_scanner_while] at hm
  have hS0 : SH M (fpl [Ent.blk b_c [.string ⟨⟨c_s⟩⟩, .int .i64 c_at_]]) w [Ent.blk b_c [.string ⟨⟨c_s⟩⟩, .int .i64 c_at_]] w := hS
  generalize hX : fpl [Ent.blk b_c [.string ⟨⟨c_s⟩⟩, .int .i64 c_at_]] = X at hS0 ⊢
  clear hS hX
  have hS := hS0
  clear hS0
  refine calls_entryP Tryd.func39 rfl Tryd.ntmps39 rfl fun _ H => ?_
  refine w_block ?_
  refine w_loop (fun kk a' w' => ∃ (v1 : Int), token_scanner_while_L1 m c_s kk v1 = some _ ∧ Fr 15 [(0, [], .pointer (some ⟨b_c, 0, none⟩)), (1, [], .func (.func 38) ⟨[]⟩ ⟨[]⟩)] a' ∧ SH M X w [Ent.blk b_c [.string ⟨⟨c_s⟩⟩, .int .i64 v1]] w') ⟨_, c_at_, hm, Fr.keep (ks := [0, 1]) H (by kernel_rfl), hS⟩ ?_
  clear hm H hS
  rintro kk _ wd9 ⟨v1, hm, H, hS⟩
  cases kk with
  | zero => exact noneE hm
  | succ kk =>
    rw [token_scanner_while_L1] at hm
    refine w_seq ?_
    obtain ⟨y2, hy2, hm⟩ := bindE hm
    refine s_reg [(.int .i64 y2), (.bool (token_digit y2))] [0, 1, 7] [(0, [], .pointer (some ⟨b_c, 0, none⟩)), (1, [], .func (.func 38) ⟨[]⟩ ⟨[]⟩), (7, [], .bool (token_digit y2))] [fun wz => RetB Tryd.prog 37 ⟨[.pointer (some ⟨b_c, 0, none⟩), .int .i64 0]⟩ (.int .i64 y2) wz, fun wz => RetB Tryd.prog 38 ⟨[.int .i64 y2]⟩ (.bool (token_digit y2)) wz] H (by kernel_rfl) ⟨(token_scanner_peek_ok (b_c := b_c) _ _ _ _ hy2 _ (s0ro s0nil (hS.bk 0 rfl))), ((token_digit_ok _).b), trivial⟩ fun _ wd3 H4 hb => ?_
    clear H
    replace hS := hS.below hb
    clear hb
    refine w_if H4 rfl (fun hc => ?_) (fun hc => ?_)
    · replace hm := bT hc hm
      refine w_skip ?_
      refine w_block ?_
      refine wl_start ?_
      refine wl_batch 0 7 [(.int .i64 v1)] [0, 1, 12, 14] [(0, [], .pointer (some ⟨b_c, 0, none⟩)), (1, [], .func (.func 38) ⟨[]⟩ ⟨[]⟩), (12, [], .int .i64 (w64 (v1 + 1))), (14, [], .pointer (some ⟨b_c, 1, none⟩))] [fun wz => V.at1 ⟨b_c, 1, none⟩ (.int .i64 v1) wz] H4 (by decide) (by kernel_rfl) ⟨((hS.bk 0 rfl).at1 rfl), trivial⟩ fun _ wd5 H6 hb => ?_
      clear H4
      replace hS := hS.below hb
      clear hb
      have hd : S0 (AvL M []) [Ent.blk b_c [.string ⟨⟨c_s⟩⟩, .int .i64 v1]] _ := hS.hand [0] [] rfl rfl
      refine m_stp0 [0, 1] [(0, [], .pointer (some ⟨b_c, 0, none⟩)), (1, [], .func (.func 38) ⟨[]⟩ ⟨[]⟩)] H6 rfl rfl rfl (o_store [.string ⟨⟨c_s⟩⟩, .int .i64 (w64 (v1 + 1))] H6 hd rfl rfl (by kernel_rfl) rfl rfl rfl) rfl fun _ wd7 H8 hq => ?_
      clear H6 hd
      obtain ⟨_, hq⟩ := hq
      replace hS : SH M X w [Ent.blk b_c [.string ⟨⟨c_s⟩⟩, .int .i64 (w64 (v1 + 1))]] _ := hS.join [0] [] rfl rfl hq
      clear hq
      refine wl_end rfl ?_
      exact ⟨_, Nat.lt_succ_self _, w64 (v1 + 1), hm, Fr.keep (ks := [0, 1]) H8 (by kernel_rfl), hS⟩
    · replace hm := bF hc hm
      refine w_exit rfl ?_
      obtain rfl := someE hm
      try dsimp only
      exact retR0 H4 rfl ⟨_, rfl, rfl, (hS.sel [0] rfl)⟩
theorem token_scanner_while_ok {b_c : Nat} (m : Nat) (c_s : Str) (c_at_ : Int) (r : Int) (hm : token_scanner_while m c_s c_at_ = some r) (M : Av) (w : World) (hS : S0 M [Ent.blk b_c [.string ⟨⟨c_s⟩⟩, .int .i64 c_at_]] w) : DoesX Tryd.prog 39 ⟨[.pointer (some ⟨b_c, 0, none⟩), .func (.func 38) ⟨[]⟩ ⟨[]⟩]⟩ w (fun v w' => v = .tuple ⟨[]⟩ ∧ SH M (fpl [Ent.blk b_c [.string ⟨⟨c_s⟩⟩, .int .i64 c_at_]]) w [Ent.blk b_c [.string ⟨⟨c_s⟩⟩, .int .i64 r]] w') := ⟨Tryd.call39 _, token_scanner_while_w M m   c_s c_at_ r hm w hS⟩

def token_scanner_figures (m : Nat) (c_s : Str) (c_at_ : Int) : Option (Bool × Int) :=
  Option.bind (
  Option.bind (token_scanner_peek c_s c_at_ 0) fun y4 =>
  cond (cond (y4 == 43) true (y4 == 45)) (
  some (w64 (c_at_ + 1))) (
  some c_at_)) fun (z3 : Int) =>
  Option.bind (token_scanner_while m c_s z3) fun y15 =>
  Option.bind (
  Option.bind (token_scanner_peek c_s y15 0) fun y21 =>
  Option.bind (cond (y21 == 46) (token_scanner_peek c_s y15 1) (some default)) fun y22 =>
  cond (cond (y21 == 46) (token_digit y22) false) (
  Option.bind (token_scanner_while m c_s (w64 (y15 + 1))) fun y31 =>
  some (false, y31)) (
  some (true, y15))) fun (z20 : Bool × Int) =>
  Option.bind (
  Option.bind (token_scanner_peek c_s z20.2 0) fun y37 =>
  Option.bind (cond (y37 == 101) (some default) (token_scanner_peek c_s z20.2 0)) fun y38 =>
  cond (cond (y37 == 101) true (y38 == 69)) (
  Option.bind (
  Option.bind (token_scanner_peek c_s z20.2 1) fun y44 =>
  cond (cond (y44 == 43) true (y44 == 45)) (
  some 2) (
  some 1)) fun (z43 : Int) =>
  Option.bind (token_scanner_peek c_s z20.2 z43) fun y51 =>
  cond (token_digit y51) (
  Option.bind (token_scanner_while m c_s (w64 (z20.2 + z43))) fun y60 =>
  some (false, y60)) (
  some (z20.1, z20.2))) (
  some (z20.1, z20.2))) fun (z36 : Bool × Int) =>
  some (z36.1, z36.2)
theorem token_scanner_figures_w {b_c : Nat} (M : Av) (m : Nat) (c_s : Str) (c_at_ : Int) (r : Bool × Int) (hm : token_scanner_figures m c_s c_at_ = some r) (w : World) (hS : S0 M [Ent.blk b_c [.string ⟨⟨c_s⟩⟩, .int .i64 c_at_]] w) : Calls Tryd.prog 30 ⟨[.pointer (some ⟨b_c, 0, none⟩)]⟩ w (fun e w' => ∃ v, e = .returned v ∧ v = .bool r.1 ∧ SH M (fpl [Ent.blk b_c [.string ⟨⟨c_s⟩⟩, .int .i64 c_at_]]) w [Ent.blk b_c [.string ⟨⟨c_s⟩⟩, .int .i64 r.2]] w') := by
  rw [token_scanner_figures] at hm
  have hS0 : SH M (fpl [Ent.blk b_c [.string ⟨⟨c_s⟩⟩, .int .i64 c_at_]]) w [Ent.blk b_c [.string ⟨⟨c_s⟩⟩, .int .i64 c_at_]] w := hS
  generalize hX : fpl [Ent.blk b_c [.string ⟨⟨c_s⟩⟩, .int .i64 c_at_]] = X at hS0 ⊢
  clear hS hX
  have hS := hS0
  clear hS0
  refine calls_entryP Tryd.func30 rfl Tryd.ntmps30 rfl fun _ H => ?_
  refine s_reg [] [0] [(0, [], .pointer (some ⟨b_c, 0, none⟩))] [] H (by kernel_rfl) trivial fun _ wd1 H2 hb => ?_
  clear H
  replace hS := hS.below hb
  clear hb
  obtain ⟨z3, hz, hm⟩ := bindE hm
  refine w_cut (fun a' w' => Fr 74 [(0, [], .pointer (some ⟨b_c, 0, none⟩))] a' ∧ SH M X w [Ent.blk b_c [.string ⟨⟨c_s⟩⟩, .int .i64 z3]] w') ?_ ?_
  · replace hm := hz
    obtain ⟨y4, hy4, hm⟩ := bindE hm
    refine s_reg [(.int .i64 y4)] [0, 3] [(0, [], .pointer (some ⟨b_c, 0, none⟩)), (3, [], .int .i64 y4)] [fun wz => RetB Tryd.prog 37 ⟨[.pointer (some ⟨b_c, 0, none⟩), .int .i64 0]⟩ (.int .i64 y4) wz] H2 (by kernel_rfl) ⟨(token_scanner_peek_ok (b_c := b_c) _ _ _ _ hy4 _ (s0ro s0nil (hS.bk 0 rfl))), trivial⟩ fun _ wd5 H6 hb => ?_
    clear H2
    replace hS := hS.below hb
    clear hb
    refine s_reg [] [0, 14] [(0, [], .pointer (some ⟨b_c, 0, none⟩)), (14, [], .bool (cond (y4 == 43) true (y4 == 45)))] [] H6 (by kernel_rfl) trivial fun _ wd7 H8 hb => ?_
    clear H6
    replace hS := hS.below hb
    clear hb
    refine w_if H8 rfl (fun hc => ?_) (fun hc => ?_)
    · replace hm := bT hc hm
      refine wl_start ?_
      refine wl_batch 0 7 [(.int .i64 c_at_)] [0, 19, 21] [(0, [], .pointer (some ⟨b_c, 0, none⟩)), (19, [], .int .i64 (w64 (c_at_ + 1))), (21, [], .pointer (some ⟨b_c, 1, none⟩))] [fun wz => V.at1 ⟨b_c, 1, none⟩ (.int .i64 c_at_) wz] H8 (by decide) (by kernel_rfl) ⟨((hS.bk 0 rfl).at1 rfl), trivial⟩ fun _ wd9 H10 hb => ?_
      clear H8
      replace hS := hS.below hb
      clear hb
      have hd : S0 (AvL M []) [Ent.blk b_c [.string ⟨⟨c_s⟩⟩, .int .i64 c_at_]] _ := hS.hand [0] [] rfl rfl
      refine m_stp0 [0] [(0, [], .pointer (some ⟨b_c, 0, none⟩))] H10 rfl rfl rfl (o_store [.string ⟨⟨c_s⟩⟩, .int .i64 (w64 (c_at_ + 1))] H10 hd rfl rfl (by kernel_rfl) rfl rfl rfl) rfl fun _ wd11 H12 hq => ?_
      clear H10 hd
      obtain ⟨_, hq⟩ := hq
      replace hS : SH M X w [Ent.blk b_c [.string ⟨⟨c_s⟩⟩, .int .i64 (w64 (c_at_ + 1))]] _ := hS.join [0] [] rfl rfl hq
      clear hq
      refine wl_end rfl ?_
      obtain rfl := someE hm
      exact ⟨Fr.keep (ks := [0]) H12 (by kernel_rfl), hS⟩
    · replace hm := bF hc hm
      refine w_skip ?_
      obtain rfl := someE hm
      exact ⟨Fr.keep (ks := [0]) H8 (by kernel_rfl), hS⟩
  · rintro _ wd70 ⟨H, hS⟩
    refine w_seq ?_
    refine wl_start ?_
    refine wl_batch 0 1 [] [0, 22] [(0, [], .pointer (some ⟨b_c, 0, none⟩)), (22, [], .pointer (some ⟨b_c, 0, none⟩))] [] H (by decide) (by kernel_rfl) trivial fun _ wd13 H14 hb => ?_
    clear H
    replace hS := hS.below hb
    clear hb
    obtain ⟨y15, hy15, hm⟩ := bindE hm
    have hd : S0 (AvL M []) [Ent.blk b_c [.string ⟨⟨c_s⟩⟩, .int .i64 z3]] _ := hS.hand [0] [] rfl rfl
    refine m_stp [23, 0] [(0, [], .pointer (some ⟨b_c, 0, none⟩))] H14 rfl rfl rfl rfl (o_callx H14 rfl rfl (token_scanner_while_ok (b_c := b_c) m _ _ _ hy15 _ _ hd)) (fun _ => rfl) fun _ wd16 v H17 hq => ?_
    clear H14 hd
    obtain ⟨rfl, hq⟩ := hq
    replace hS : SH M X w [Ent.blk b_c [.string ⟨⟨c_s⟩⟩, .int .i64 y15]] _ := hS.join [0] [] rfl rfl hq
    clear hq
    refine wl_end rfl ?_
    refine s_reg [] [0, 4] [(0, [], .pointer (some ⟨b_c, 0, none⟩)), (4, [], .bool true)] [] H17 (by kernel_rfl) trivial fun _ wd18 H19 hb => ?_
    clear H17
    replace hS := hS.below hb
    clear hb
    obtain ⟨z20, hz, hm⟩ := bindE hm
    refine w_cut (fun a' w' => Fr 74 [(0, [], .pointer (some ⟨b_c, 0, none⟩)), (4, [], .bool z20.1)] a' ∧ SH M X w [Ent.blk b_c [.string ⟨⟨c_s⟩⟩, .int .i64 z20.2]] w') ?_ ?_
    · replace hm := hz
      obtain ⟨y21, hy21, hm⟩ := bindE hm
      obtain ⟨y22, hy22, hm⟩ := bindE hm
      refine s_reg [(.int .i64 y21), (.int .i64 y22), (.bool (token_digit y22))] [0, 4, 31] [(0, [], .pointer (some ⟨b_c, 0, none⟩)), (4, [], .bool true), (31, [], .bool (cond (y21 == 46) (token_digit y22) false))] [fun wz => RetB Tryd.prog 37 ⟨[.pointer (some ⟨b_c, 0, none⟩), .int .i64 0]⟩ (.int .i64 y21) wz, fun wz => ((y21 == 46) = true ∧ True → RetB Tryd.prog 37 ⟨[.pointer (some ⟨b_c, 0, none⟩), .int .i64 1]⟩ (.int .i64 y22) wz), fun wz => ((y21 == 46) = true ∧ True → RetB Tryd.prog 38 ⟨[.int .i64 y22]⟩ (.bool (token_digit y22)) wz)] H19 (by kernel_rfl) ⟨(token_scanner_peek_ok (b_c := b_c) _ _ _ _ hy21 _ (s0ro s0nil (hS.bk 0 rfl))), fun hg => token_scanner_peek_ok (b_c := b_c) _ _ _ _ (bT (hg.1) hy22) _ (s0ro s0nil (hS.bk 0 rfl)), fun hg => (token_digit_ok _).b, trivial⟩ fun _ wd23 H24 hb => ?_
      clear H19
      replace hS := hS.below hb
      clear hb
      refine w_if H24 rfl (fun hc => ?_) (fun hc => ?_)
      · replace hm := bT hc hm
        refine w_seq ?_
        refine wl_start ?_
        refine wl_batch 0 7 [(.int .i64 y15)] [0, 36, 38] [(0, [], .pointer (some ⟨b_c, 0, none⟩)), (36, [], .int .i64 (w64 (y15 + 1))), (38, [], .pointer (some ⟨b_c, 1, none⟩))] [fun wz => V.at1 ⟨b_c, 1, none⟩ (.int .i64 y15) wz] H24 (by decide) (by kernel_rfl) ⟨((hS.bk 0 rfl).at1 rfl), trivial⟩ fun _ wd25 H26 hb => ?_
        clear H24
        replace hS := hS.below hb
        clear hb
        have hd : S0 (AvL M []) [Ent.blk b_c [.string ⟨⟨c_s⟩⟩, .int .i64 y15]] _ := hS.hand [0] [] rfl rfl
        refine m_stp0 [0] [(0, [], .pointer (some ⟨b_c, 0, none⟩))] H26 rfl rfl rfl (o_store [.string ⟨⟨c_s⟩⟩, .int .i64 (w64 (y15 + 1))] H26 hd rfl rfl (by kernel_rfl) rfl rfl rfl) rfl fun _ wd27 H28 hq => ?_
        clear H26 hd
        obtain ⟨_, hq⟩ := hq
        replace hS : SH M X w [Ent.blk b_c [.string ⟨⟨c_s⟩⟩, .int .i64 (w64 (y15 + 1))]] _ := hS.join [0] [] rfl rfl hq
        clear hq
        refine wl_end rfl ?_
        refine w_seq ?_
        refine wl_start ?_
        refine wl_batch 0 1 [] [0, 39] [(0, [], .pointer (some ⟨b_c, 0, none⟩)), (39, [], .pointer (some ⟨b_c, 0, none⟩))] [] H28 (by decide) (by kernel_rfl) trivial fun _ wd29 H30 hb => ?_
        clear H28
        replace hS := hS.below hb
        clear hb
        obtain ⟨y31, hy31, hm⟩ := bindE hm
        have hd : S0 (AvL M []) [Ent.blk b_c [.string ⟨⟨c_s⟩⟩, .int .i64 (w64 (y15 + 1))]] _ := hS.hand [0] [] rfl rfl
        refine m_stp [40, 0] [(0, [], .pointer (some ⟨b_c, 0, none⟩))] H30 rfl rfl rfl rfl (o_callx H30 rfl rfl (token_scanner_while_ok (b_c := b_c) m _ _ _ hy31 _ _ hd)) (fun _ => rfl) fun _ wd32 v H33 hq => ?_
        clear H30 hd
        obtain ⟨rfl, hq⟩ := hq
        replace hS : SH M X w [Ent.blk b_c [.string ⟨⟨c_s⟩⟩, .int .i64 y31]] _ := hS.join [0] [] rfl rfl hq
        clear hq
        refine wl_end rfl ?_
        refine w_reg [] [0, 4] [(0, [], .pointer (some ⟨b_c, 0, none⟩)), (4, [], .bool false)] [] H33 (by kernel_rfl) trivial fun _ wd34 H35 hb => ?_
        clear H33
        replace hS := hS.below hb
        clear hb
        obtain rfl := someE hm
        exact ⟨Fr.keep (ks := [0, 4]) H35 (by kernel_rfl), hS⟩
      · replace hm := bF hc hm
        refine w_skip ?_
        obtain rfl := someE hm
        exact ⟨Fr.keep (ks := [0, 4]) H24 (by kernel_rfl), hS⟩
    · rintro _ wd69 ⟨H, hS⟩
      obtain ⟨z36, hz, hm⟩ := bindE hm
      refine w_cut (fun a' w' => Fr 74 [(4, [], .bool z36.1)] a' ∧ SH M X w [Ent.blk b_c [.string ⟨⟨c_s⟩⟩, .int .i64 z36.2]] w') ?_ ?_
      · replace hm := hz
        obtain ⟨y37, hy37, hm⟩ := bindE hm
        obtain ⟨y38, hy38, hm⟩ := bindE hm
        refine s_reg [(.int .i64 y37), (.int .i64 y38)] [0, 4, 48] [(0, [], .pointer (some ⟨b_c, 0, none⟩)), (4, [], .bool z20.1), (48, [], .bool (cond (y37 == 101) true (y38 == 69)))] [fun wz => RetB Tryd.prog 37 ⟨[.pointer (some ⟨b_c, 0, none⟩), .int .i64 0]⟩ (.int .i64 y37) wz, fun wz => ((y37 == 101) = false ∧ True → RetB Tryd.prog 37 ⟨[.pointer (some ⟨b_c, 0, none⟩), .int .i64 0]⟩ (.int .i64 y38) wz)] H (by kernel_rfl) ⟨(token_scanner_peek_ok (b_c := b_c) _ _ _ _ hy37 _ (s0ro s0nil (hS.bk 0 rfl))), fun hg => token_scanner_peek_ok (b_c := b_c) _ _ _ _ (bF (hg.1) hy38) _ (s0ro s0nil (hS.bk 0 rfl)), trivial⟩ fun _ wd39 H40 hb => ?_
        clear H
        replace hS := hS.below hb
        clear hb
        refine w_if H40 rfl (fun hc => ?_) (fun hc => ?_)
        · replace hm := bT hc hm
          refine s_reg [] [0, 4, 5] [(0, [], .pointer (some ⟨b_c, 0, none⟩)), (4, [], .bool z20.1), (5, [], .int .i64 1)] [] H40 (by kernel_rfl) trivial fun _ wd41 H42 hb => ?_
          clear H40
          replace hS := hS.below hb
          clear hb
          obtain ⟨z43, hz, hm⟩ := bindE hm
          refine w_cut (fun a' w' => Fr 74 [(0, [], .pointer (some ⟨b_c, 0, none⟩)), (4, [], .bool z20.1), (5, [], .int .i64 z43)] a' ∧ SH M X w [Ent.blk b_c [.string ⟨⟨c_s⟩⟩, .int .i64 z20.2]] w') ?_ ?_
          · replace hm := hz
            obtain ⟨y44, hy44, hm⟩ := bindE hm
            refine s_reg [(.int .i64 y44)] [0, 4, 5, 6] [(0, [], .pointer (some ⟨b_c, 0, none⟩)), (4, [], .bool z20.1), (5, [], .int .i64 1), (6, [], .int .i64 y44)] [fun wz => RetB Tryd.prog 37 ⟨[.pointer (some ⟨b_c, 0, none⟩), .int .i64 1]⟩ (.int .i64 y44) wz] H42 (by kernel_rfl) ⟨(token_scanner_peek_ok (b_c := b_c) _ _ _ _ hy44 _ (s0ro s0nil (hS.bk 0 rfl))), trivial⟩ fun _ wd45 H46 hb => ?_
            clear H42
            replace hS := hS.below hb
            clear hb
            refine s_reg [] [0, 4, 5, 56] [(0, [], .pointer (some ⟨b_c, 0, none⟩)), (4, [], .bool z20.1), (5, [], .int .i64 1), (56, [], .bool (cond (y44 == 43) true (y44 == 45)))] [] H46 (by kernel_rfl) trivial fun _ wd47 H48 hb => ?_
            clear H46
            replace hS := hS.below hb
            clear hb
            refine w_if H48 rfl (fun hc => ?_) (fun hc => ?_)
            · replace hm := bT hc hm
              refine w_reg [] [0, 4, 5] [(0, [], .pointer (some ⟨b_c, 0, none⟩)), (4, [], .bool z20.1), (5, [], .int .i64 2)] [] H48 (by kernel_rfl) trivial fun _ wd49 H50 hb => ?_
              clear H48
              replace hS := hS.below hb
              clear hb
              obtain rfl := someE hm
              exact ⟨Fr.keep (ks := [0, 4, 5]) H50 (by kernel_rfl), hS⟩
            · replace hm := bF hc hm
              refine w_skip ?_
              obtain rfl := someE hm
              exact ⟨Fr.keep (ks := [0, 4, 5]) H48 (by kernel_rfl), hS⟩
          · rintro _ wd65 ⟨H, hS⟩
            obtain ⟨y51, hy51, hm⟩ := bindE hm
            refine s_reg [(.int .i64 y51), (.bool (token_digit y51))] [0, 4, 5, 62] [(0, [], .pointer (some ⟨b_c, 0, none⟩)), (4, [], .bool z20.1), (5, [], .int .i64 z43), (62, [], .bool (token_digit y51))] [fun wz => RetB Tryd.prog 37 ⟨[.pointer (some ⟨b_c, 0, none⟩), .int .i64 z43]⟩ (.int .i64 y51) wz, fun wz => RetB Tryd.prog 38 ⟨[.int .i64 y51]⟩ (.bool (token_digit y51)) wz] H (by kernel_rfl) ⟨(token_scanner_peek_ok (b_c := b_c) _ _ _ _ hy51 _ (s0ro s0nil (hS.bk 0 rfl))), ((token_digit_ok _).b), trivial⟩ fun _ wd52 H53 hb => ?_
            clear H
            replace hS := hS.below hb
            clear hb
            refine w_if H53 rfl (fun hc => ?_) (fun hc => ?_)
            · replace hm := bT hc hm
              refine w_seq ?_
              refine wl_start ?_
              refine wl_batch 0 8 [(.int .i64 z20.2)] [0, 68, 70] [(0, [], .pointer (some ⟨b_c, 0, none⟩)), (68, [], .int .i64 (w64 (z20.2 + z43))), (70, [], .pointer (some ⟨b_c, 1, none⟩))] [fun wz => V.at1 ⟨b_c, 1, none⟩ (.int .i64 z20.2) wz] H53 (by decide) (by kernel_rfl) ⟨((hS.bk 0 rfl).at1 rfl), trivial⟩ fun _ wd54 H55 hb => ?_
              clear H53
              replace hS := hS.below hb
              clear hb
              have hd : S0 (AvL M []) [Ent.blk b_c [.string ⟨⟨c_s⟩⟩, .int .i64 z20.2]] _ := hS.hand [0] [] rfl rfl
              refine m_stp0 [0] [(0, [], .pointer (some ⟨b_c, 0, none⟩))] H55 rfl rfl rfl (o_store [.string ⟨⟨c_s⟩⟩, .int .i64 (w64 (z20.2 + z43))] H55 hd rfl rfl (by kernel_rfl) rfl rfl rfl) rfl fun _ wd56 H57 hq => ?_
              clear H55 hd
              obtain ⟨_, hq⟩ := hq
              replace hS : SH M X w [Ent.blk b_c [.string ⟨⟨c_s⟩⟩, .int .i64 (w64 (z20.2 + z43))]] _ := hS.join [0] [] rfl rfl hq
              clear hq
              refine wl_end rfl ?_
              refine w_seq ?_
              refine wl_start ?_
              refine wl_batch 0 1 [] [71] [(71, [], .pointer (some ⟨b_c, 0, none⟩))] [] H57 (by decide) (by kernel_rfl) trivial fun _ wd58 H59 hb => ?_
              clear H57
              replace hS := hS.below hb
              clear hb
              obtain ⟨y60, hy60, hm⟩ := bindE hm
              have hd : S0 (AvL M []) [Ent.blk b_c [.string ⟨⟨c_s⟩⟩, .int .i64 (w64 (z20.2 + z43))]] _ := hS.hand [0] [] rfl rfl
              refine m_stp [72] [] H59 rfl rfl rfl rfl (o_callx H59 rfl rfl (token_scanner_while_ok (b_c := b_c) m _ _ _ hy60 _ _ hd)) (fun _ => rfl) fun _ wd61 v H62 hq => ?_
              clear H59 hd
              obtain ⟨rfl, hq⟩ := hq
              replace hS : SH M X w [Ent.blk b_c [.string ⟨⟨c_s⟩⟩, .int .i64 y60]] _ := hS.join [0] [] rfl rfl hq
              clear hq
              refine wl_end rfl ?_
              refine w_reg [] [4] [(4, [], .bool false)] [] H62 (by kernel_rfl) trivial fun _ wd63 H64 hb => ?_
              clear H62
              replace hS := hS.below hb
              clear hb
              obtain rfl := someE hm
              exact ⟨Fr.keep (ks := [4]) H64 (by kernel_rfl), hS⟩
            · replace hm := bF hc hm
              refine w_skip ?_
              obtain rfl := someE hm
              exact ⟨Fr.keep (ks := [4]) H53 (by kernel_rfl), hS⟩
        · replace hm := bF hc hm
          refine w_skip ?_
          obtain rfl := someE hm
          exact ⟨Fr.keep (ks := [4]) H40 (by kernel_rfl), hS⟩
      · rintro _ wd68 ⟨H, hS⟩
        refine s_reg [] [2] [(2, [], .bool z36.1)] [] H (by kernel_rfl) trivial fun _ wd66 H67 hb => ?_
        clear H
        replace hS := hS.below hb
        clear hb
        refine w_ret ?_
        obtain rfl := someE hm
        exact retR1 H67 rfl rfl ⟨_, rfl, rfl, (hS.sel [0] rfl)⟩
theorem token_scanner_figures_ok {b_c : Nat} (m : Nat) (c_s : Str) (c_at_ : Int) (r : Bool × Int) (hm : token_scanner_figures m c_s c_at_ = some r) (M : Av) (w : World) (hS : S0 M [Ent.blk b_c [.string ⟨⟨c_s⟩⟩, .int .i64 c_at_]] w) : DoesX Tryd.prog 30 ⟨[.pointer (some ⟨b_c, 0, none⟩)]⟩ w (fun v w' => v = .bool r.1 ∧ SH M (fpl [Ent.blk b_c [.string ⟨⟨c_s⟩⟩, .int .i64 c_at_]]) w [Ent.blk b_c [.string ⟨⟨c_s⟩⟩, .int .i64 r.2]] w') := ⟨Tryd.call30 _, token_scanner_figures_w M m   c_s c_at_ r hm w hS⟩

def x_strings_TrimLeft (x0 : Str) (x1 : Str) : Option Str := chk (ascB x1 = true ∧ x1.length < 4294967281) (some (Lib.trimLeftS x0 x1))
theorem x_strings_TrimLeft_ok (x0 : Str) (x1 : Str) (r : Str) (hm : x_strings_TrimLeft x0 x1 = some r) (w : World) : RetB Tryd.prog 40 ⟨[.string ⟨⟨x0⟩⟩, .string ⟨⟨x1⟩⟩]⟩ (.string ⟨⟨r⟩⟩) w := by
  obtain ⟨h, hm⟩ := chkE hm
  obtain rfl := someE hm
  exact .inl ⟨Tryd.call40 _, fun w' _ => (Any.strings_TrimLeft_laid Tryd.lays161 (by kernel_rfl) ⟨⟨x0⟩⟩ ⟨⟨x1⟩⟩ w' h.2 (ascB_get h.1)).mono fun e w'' he => ⟨he.1, he.2⟩⟩

def x_strings_IndexAny (x0 : Str) (x1 : Str) : Option Int := chk (ascB x0 = true ∧ ascB x1 = true ∧ x0.length < 4294967281 ∧ x1.length < 4294967281) (some (Lib.indexAny x0 x1))
theorem x_strings_IndexAny_ok (x0 : Str) (x1 : Str) (r : Int) (hm : x_strings_IndexAny x0 x1 = some r) (w : World) : RetB Tryd.prog 41 ⟨[.string ⟨⟨x0⟩⟩, .string ⟨⟨x1⟩⟩]⟩ (.int .i64 r) w := by
  obtain ⟨h, hm⟩ := chkE hm
  obtain rfl := someE hm
  exact .inl ⟨Tryd.call41 _, fun w' _ => (Any.strings_IndexAny_laid Tryd.lays153 (by kernel_rfl) ⟨⟨x0⟩⟩ ⟨⟨x1⟩⟩ w' h.2.2.1 h.2.2.2 (ascB_get h.1) (ascB_get h.2.1)).mono fun e w'' he => ⟨he.1, he.2⟩⟩

theorem nat66 (x0 : Str) (x1 : Int) (w : World) : RetB Tryd.prog 66 ⟨[.string ⟨⟨x0⟩⟩, .int .u8 x1]⟩ (.int .i64 (nIndexByte x0 x1)) w := nat_IndexByteString Tryd.func66 (by kernel_rfl) rfl (by kernel_rfl) (by kernel_rfl) _ _ w

def stringslite_IndexByte (s : Str) (c_ : Int) : Int :=
  (nIndexByte s c_)
theorem stringslite_IndexByte_w  (M : Av) (s : Str) (c_ : Int) (r : Int) (hm : stringslite_IndexByte s c_ = r) (w : World) (hS : S0 M [] w) : Calls Tryd.prog 64 ⟨[.string ⟨⟨s⟩⟩, .int .u8 c_]⟩ w (fun e w' => ∃ v, e = .returned v ∧ v = .int .i64 r ∧ SH M (fpl []) w [] w') := by
  rw [stringslite_IndexByte] at hm
  have hS0 : SH M (fpl []) w [] w := hS
  generalize hX : fpl [] = X at hS0 ⊢
  clear hS hX
  have hS := hS0
  clear hS0
  refine calls_entryP Tryd.func64 rfl Tryd.ntmps64 rfl fun _ H => ?_
  refine s_reg [] [0, 1] [(0, [], .string ⟨⟨s⟩⟩), (1, [], .int .u8 c_)] [] H (by kernel_rfl) trivial fun _ wd1 H2 hb => ?_
  clear H
  replace hS := hS.below hb
  clear hb
  refine s_reg [(.int .i64 (nIndexByte s c_))] [4] [(4, [], .int .i64 (nIndexByte s c_))] [fun wz => RetB Tryd.prog 66 ⟨[.string ⟨⟨s⟩⟩, .int .u8 c_]⟩ (.int .i64 (nIndexByte s c_)) wz] H2 (by kernel_rfl) ⟨(nat66 _ _ _), trivial⟩ fun _ wd3 H4 hb => ?_
  clear H2
  replace hS := hS.below hb
  clear hb
  refine w_ret ?_
  subst hm
  exact retR1 H4 rfl rfl ⟨_, rfl, rfl, (hS.sel [] rfl)⟩
theorem stringslite_IndexByte_ok  (s : Str) (c_ : Int) : Ret Tryd.prog 64 ⟨[.string ⟨⟨s⟩⟩, .int .u8 c_]⟩ (.int .i64 (stringslite_IndexByte s c_)) := retP_of (Tryd.call64 _) (fun w h => stringslite_IndexByte_w F0   s c_ _ rfl w h)

def stringslite_Index (s : Str) (substr : Str) : Option (Int) :=
  lt (cond ((ln substr) == 0) true (substr == s)) fun x5 =>
  cond x5 (
  some 0) (
  cond ((ln substr) == 1) (
  chk (0 ≤ (0 : Int) ∧ (0 : Int) < ln substr) <|
  some (stringslite_IndexByte s (bat substr 0))) (
  cond (decide ((ln s) ≤ (ln substr))) (
  some (-1)) (
  none)))
theorem stringslite_Index_w  (M : Av) (s : Str) (substr : Str) (r : Int) (hm : stringslite_Index s substr = some r) (w : World) (hS : S0 M [] w) : Calls Tryd.prog 62 ⟨[.string ⟨⟨s⟩⟩, .string ⟨⟨substr⟩⟩]⟩ w (fun e w' => ∃ v, e = .returned v ∧ v = .int .i64 r ∧ SH M (fpl []) w [] w') := by
  rw [stringslite_Index] at hm
  have hS0 : SH M (fpl []) w [] w := hS
  generalize hX : fpl [] = X at hS0 ⊢
  clear hS hX
  have hS := hS0
  clear hS0
  refine calls_entryP Tryd.func62 rfl Tryd.ntmps62 rfl fun _ H => ?_
  refine s_reg [] [0, 1] [(0, [], .string ⟨⟨s⟩⟩), (1, [], .string ⟨⟨substr⟩⟩)] [] H (by kernel_rfl) trivial fun _ wd1 H2 hb => ?_
  clear H
  replace hS := hS.below hb
  clear hb
  refine s_reg [] [0, 1, 5] [(0, [], .string ⟨⟨s⟩⟩), (1, [], .string ⟨⟨substr⟩⟩), (5, [], .int .i64 (ln substr))] [] H2 (by kernel_rfl) trivial fun _ wd3 H4 hb => ?_
  clear H2
  replace hS := hS.below hb
  clear hb
  refine w_seq ?_
  refine w_block ?_
  obtain ⟨x5, hx5, hm⟩ := letE hm
  refine s_reg [] [0, 1, 5, 16] [(0, [], .string ⟨⟨s⟩⟩), (1, [], .string ⟨⟨substr⟩⟩), (5, [], .int .i64 (ln substr)), (16, [], .bool x5)] [] H4 (by subst hx5; kernel_rfl) trivial fun _ wd6 H7 hb => ?_
  clear H4
  replace hS := hS.below hb
  clear hb
  refine w_if H7 rfl (fun hc => ?_) (fun hc => ?_)
  · replace hm := bT hc hm
    refine s_reg [] [4] [(4, [], .int .i64 0)] [] H7 (by kernel_rfl) trivial fun _ wd8 H9 hb => ?_
    clear H7
    replace hS := hS.below hb
    clear hb
    refine w_ret ?_
    obtain rfl := someE hm
    exact retR1 H9 rfl rfl ⟨_, rfl, rfl, (hS.sel [] rfl)⟩
  · replace hm := bF hc hm
    refine s_reg [] [0, 1, 5, 24] [(0, [], .string ⟨⟨s⟩⟩), (1, [], .string ⟨⟨substr⟩⟩), (5, [], .int .i64 (ln substr)), (24, [], .bool ((ln substr) == 1))] [] H7 (by kernel_rfl) trivial fun _ wd10 H11 hb => ?_
    clear H7
    replace hS := hS.below hb
    clear hb
    refine w_if H11 rfl (fun hc => ?_) (fun hc => ?_)
    · replace hm := bT hc hm
      obtain ⟨ho12, hm⟩ := chkE hm
      refine s_reg [(.int .i64 (stringslite_IndexByte s (bat substr 0)))] [4] [(4, [], .int .i64 (stringslite_IndexByte s (bat substr 0)))] [fun _ => 0 ≤ (0 : Int) ∧ (0 : Int) < ln substr, fun wz => RetB Tryd.prog 64 ⟨[.string ⟨⟨s⟩⟩, .int .u8 (bat substr 0)]⟩ (.int .i64 (stringslite_IndexByte s (bat substr 0))) wz] H11 (by kernel_rfl) ⟨ho12, ((stringslite_IndexByte_ok _ _).b), trivial⟩ fun _ wd13 H14 hb => ?_
      clear H11
      replace hS := hS.below hb
      clear hb
      refine w_ret ?_
      obtain rfl := someE hm
      exact retR1 H14 rfl rfl ⟨_, rfl, rfl, (hS.sel [] rfl)⟩
    · replace hm := bF hc hm
      refine s_reg [] [0, 1, 5, 31] [(0, [], .string ⟨⟨s⟩⟩), (1, [], .string ⟨⟨substr⟩⟩), (5, [], .int .i64 (ln substr)), (31, [], .bool (decide ((ln s) ≤ (ln substr))))] [] H11 (by kernel_rfl) trivial fun _ wd15 H16 hb => ?_
      clear H11
      replace hS := hS.below hb
      clear hb
      refine w_if H16 rfl (fun hc => ?_) (fun hc => ?_)
      · replace hm := bT hc hm
        refine s_reg [] [4] [(4, [], .int .i64 (-1))] [] H16 (by kernel_rfl) trivial fun _ wd17 H18 hb => ?_
        clear H16
        replace hS := hS.below hb
        clear hb
        refine w_ret ?_
        obtain rfl := someE hm
        exact retR1 H18 rfl rfl ⟨_, rfl, rfl, (hS.sel [] rfl)⟩
      · replace hm := bF hc hm
        exact noneE hm
theorem stringslite_Index_ok  (s : Str) (substr : Str) (r : Int) (hm : stringslite_Index s substr = some r) : Ret Tryd.prog 62 ⟨[.string ⟨⟨s⟩⟩, .string ⟨⟨substr⟩⟩]⟩ (.int .i64 r) := retP_of (Tryd.call62 _) (fun w h => stringslite_Index_w F0   s substr r hm w h)

def stringslite_Cut (s : Str) (sep : Str) : Option (Str × Str × Bool) :=
  Option.bind (stringslite_Index s sep) fun y3 =>
  cond (decide (0 ≤ y3)) (
  chk (0 ≤ y3 ∧ y3 ≤ ln s) <|
  chk (0 ≤ (w64 (y3 + (ln sep))) ∧ (w64 (y3 + (ln sep))) ≤ ln s) <|
  some (sub s 0 y3, sub s (w64 (y3 + (ln sep))) (ln s), true)) (
  some (s, [], false))
theorem stringslite_Cut_w  (M : Av) (s : Str) (sep : Str) (r : Str × Str × Bool) (hm : stringslite_Cut s sep = some r) (w : World) (hS : S0 M [] w) : Calls Tryd.prog 55 ⟨[.string ⟨⟨s⟩⟩, .string ⟨⟨sep⟩⟩]⟩ w (fun e w' => ∃ v, e = .returned v ∧ v = .tuple ⟨[.string ⟨⟨r.1⟩⟩, .string ⟨⟨r.2.1⟩⟩, .bool r.2.2]⟩ ∧ SH M (fpl []) w [] w') := by
  rw [stringslite_Cut] at hm
  have hS0 : SH M (fpl []) w [] w := hS
  generalize hX : fpl [] = X at hS0 ⊢
  clear hS hX
  have hS := hS0
  clear hS0
  refine calls_entryP Tryd.func55 rfl Tryd.ntmps55 rfl fun _ H => ?_
  refine s_reg [] [0, 1] [(0, [], .string ⟨⟨s⟩⟩), (1, [], .string ⟨⟨sep⟩⟩)] [] H (by kernel_rfl) trivial fun _ wd1 H2 hb => ?_
  clear H
  replace hS := hS.below hb
  clear hb
  refine w_seq ?_
  obtain ⟨y3, hy3, hm⟩ := bindE hm
  refine s_reg [(.int .i64 y3)] [0, 1, 7] [(0, [], .string ⟨⟨s⟩⟩), (1, [], .string ⟨⟨sep⟩⟩), (7, [], .int .i64 y3)] [fun wz => RetB Tryd.prog 62 ⟨[.string ⟨⟨s⟩⟩, .string ⟨⟨sep⟩⟩]⟩ (.int .i64 y3) wz] H2 (by kernel_rfl) ⟨((stringslite_Index_ok _ _ _ hy3).b), trivial⟩ fun _ wd4 H5 hb => ?_
  clear H2
  replace hS := hS.below hb
  clear hb
  refine s_reg [] [0, 1, 7, 12] [(0, [], .string ⟨⟨s⟩⟩), (1, [], .string ⟨⟨sep⟩⟩), (7, [], .int .i64 y3), (12, [], .bool (decide (0 ≤ y3)))] [] H5 (by kernel_rfl) trivial fun _ wd6 H7 hb => ?_
  clear H5
  replace hS := hS.below hb
  clear hb
  refine w_if H7 rfl (fun hc => ?_) (fun hc => ?_)
  · replace hm := bT hc hm
    obtain ⟨ho8, hm⟩ := chkE hm
    obtain ⟨ho9, hm⟩ := chkE hm
    refine s_draw [] [4, 5, 6] [(4, [], .string ⟨⟨sub s 0 y3⟩⟩), (5, [], .string ⟨⟨sub s (w64 (y3 + (ln sep))) (ln s)⟩⟩), (6, [], .bool true)] [fun _ => 0 ≤ y3 ∧ y3 ≤ ln s, fun _ => 0 ≤ (w64 (y3 + (ln sep))) ∧ (w64 (y3 + (ln sep))) ≤ ln s] H7 (by kernel_rfl) (by kernel_rfl) (by kernel_rfl) ⟨ho8, ho9, trivial⟩ fun _ wd10 H11 hb => ?_
    clear H7
    replace hS := hS.below hb
    clear hb
    refine w_ret ?_
    obtain rfl := someE hm
    exact retR3 H11 rfl rfl rfl rfl ⟨_, rfl, rfl, (hS.sel [] rfl)⟩
  · replace hm := bF hc hm
    refine w_skip ?_
    refine s_reg [] [4, 5, 6] [(4, [], .string ⟨⟨s⟩⟩), (5, [], .string ⟨⟨[]⟩⟩), (6, [], .bool false)] [] H7 (by kernel_rfl) trivial fun _ wd12 H13 hb => ?_
    clear H7
    replace hS := hS.below hb
    clear hb
    refine w_ret ?_
    obtain rfl := someE hm
    exact retR3 H13 rfl rfl rfl rfl ⟨_, rfl, rfl, (hS.sel [] rfl)⟩
theorem stringslite_Cut_ok  (s : Str) (sep : Str) (r : Str × Str × Bool) (hm : stringslite_Cut s sep = some r) : Ret Tryd.prog 55 ⟨[.string ⟨⟨s⟩⟩, .string ⟨⟨sep⟩⟩]⟩ (.tuple ⟨[.string ⟨⟨r.1⟩⟩, .string ⟨⟨r.2.1⟩⟩, .bool r.2.2]⟩) := retP_of (Tryd.call55 _) (fun w h => stringslite_Cut_w F0   s sep r hm w h)

def strings_Cut (s : Str) (sep : Str) : Option (Str × Str × Bool) :=
  Option.bind (stringslite_Cut s sep) fun y3 =>
  some (y3.1, y3.2.1, y3.2.2)
theorem strings_Cut_w  (M : Av) (s : Str) (sep : Str) (r : Str × Str × Bool) (hm : strings_Cut s sep = some r) (w : World) (hS : S0 M [] w) : Calls Tryd.prog 42 ⟨[.string ⟨⟨s⟩⟩, .string ⟨⟨sep⟩⟩]⟩ w (fun e w' => ∃ v, e = .returned v ∧ v = .tuple ⟨[.string ⟨⟨r.1⟩⟩, .string ⟨⟨r.2.1⟩⟩, .bool r.2.2]⟩ ∧ SH M (fpl []) w [] w') := by
  rw [strings_Cut] at hm
  have hS0 : SH M (fpl []) w [] w := hS
  generalize hX : fpl [] = X at hS0 ⊢
  clear hS hX
  have hS := hS0
  clear hS0
  refine calls_entryP Tryd.func42 rfl Tryd.ntmps42 rfl fun _ H => ?_
  refine s_reg [] [0, 1] [(0, [], .string ⟨⟨s⟩⟩), (1, [], .string ⟨⟨sep⟩⟩)] [] H (by kernel_rfl) trivial fun _ wd1 H2 hb => ?_
  clear H
  replace hS := hS.below hb
  clear hb
  obtain ⟨y3, hy3, hm⟩ := bindE hm
  refine s_reg [(.tuple ⟨[.string ⟨⟨y3.1⟩⟩, .string ⟨⟨y3.2.1⟩⟩, .bool y3.2.2]⟩)] [4, 5, 6] [(4, [], .string ⟨⟨y3.1⟩⟩), (5, [], .string ⟨⟨y3.2.1⟩⟩), (6, [], .bool y3.2.2)] [fun wz => RetB Tryd.prog 55 ⟨[.string ⟨⟨s⟩⟩, .string ⟨⟨sep⟩⟩]⟩ (.tuple ⟨[.string ⟨⟨y3.1⟩⟩, .string ⟨⟨y3.2.1⟩⟩, .bool y3.2.2]⟩) wz] H2 (by kernel_rfl) ⟨((stringslite_Cut_ok _ _ _ hy3).b), trivial⟩ fun _ wd4 H5 hb => ?_
  clear H2
  replace hS := hS.below hb
  clear hb
  refine w_ret ?_
  obtain rfl := someE hm
  exact retR3 H5 rfl rfl rfl rfl ⟨_, rfl, rfl, (hS.sel [] rfl)⟩
theorem strings_Cut_ok  (s : Str) (sep : Str) (r : Str × Str × Bool) (hm : strings_Cut s sep = some r) : Ret Tryd.prog 42 ⟨[.string ⟨⟨s⟩⟩, .string ⟨⟨sep⟩⟩]⟩ (.tuple ⟨[.string ⟨⟨r.1⟩⟩, .string ⟨⟨r.2.1⟩⟩, .bool r.2.2]⟩) := retP_of (Tryd.call42 _) (fun w h => strings_Cut_w F0   s sep r hm w h)

def token_thousandths_L1 (m : Nat) (y21 : Str) : Nat → Int → Int → Option (Int)
  | 0, _, _ => none
  | kk + 1, v30, v31 =>
    cond (decide (v31 < (ln (ofB y21)))) (
    chk (0 ≤ v31 ∧ v31 < ln (ofB y21)) <|
    lt (w64 ((w64 (10 * v30)) + (w64 (wu8 ((gi (ofB y21) v31) - 48))))) fun x37 =>
    token_thousandths_L1 m y21 kk (if 1048576 < x37 then 1048576 else x37) (w64 (v31 + 1))) (
    some v30)
def token_thousandths_L2 (m : Nat) (z62 : Str) : Nat → Int → Int → Option (Int)
  | 0, _, _ => none
  | kk + 1, v82, v83 =>
    cond (decide (v83 < (ln (ofB z62)))) (
    chk (0 ≤ v83 ∧ v83 < ln (ofB z62)) <|
    lt (w64 ((w64 (10 * v82)) + (w64 (wu8 ((gi (ofB z62) v83) - 48))))) fun x89 =>
    lt (if 1000000000000 < x89 then 1000000000000 else x89) fun x90 =>
    token_thousandths_L2 m z62 kk x90 (w64 (v83 + 1))) (
    some v82)
def token_thousandths_L3 (m : Nat)  : Nat → Int → Int → Option (Int)
  | 0, _, _ => none
  | kk + 1, v97, v98 =>
    lt (cond (decide (0 < v97)) (decide (0 < v98)) false) fun x99 =>
    lt (cond x99 (decide (v98 < 1000000000000)) false) fun x100 =>
    cond x100 (
    lt (if 1000000000000 < w64 (10 * v98) then 1000000000000 else w64 (10 * v98)) fun x103 =>
    token_thousandths_L3 m  kk (w64 (v97 - 1)) x103) (
    some v98)
def token_thousandths (m : Nat) (s : Str) : Option (Int) :=
  chk (0 ≤ (0 : Int) ∧ (0 : Int) < ln s) <|
  Option.bind (x_strings_TrimLeft s [43, 45]) fun y6 =>
  Option.bind (
  Option.bind (x_strings_IndexAny y6 [101, 69]) fun y12 =>
  cond (decide (0 ≤ y12)) (
  Option.bind (
  chk (0 ≤ (w64 (y12 + 1)) ∧ (w64 (y12 + 1)) ≤ ln y6) <|
  Option.bind (x_strings_TrimLeft (sub y6 (w64 (y12 + 1)) (ln y6)) [43, 45]) fun y21 =>
  token_thousandths_L1 m y21 m 0 0) fun (z19 : Int) =>
  Option.bind (
  chk (0 ≤ (w64 (y12 + 1)) ∧ (w64 (y12 + 1)) < ln y6) <|
  cond ((bat y6 (w64 (y12 + 1))) == 45) (
  some (w64 (0 - z19))) (
  some z19)) fun (z43 : Int) =>
  chk (0 ≤ y12 ∧ y12 ≤ ln y6) <|
  some (sub y6 0 y12, w64 (3 + z43))) (
  some (y6, 3))) fun (z11 : Str × Int) =>
  Option.bind (strings_Cut z11.1 [46]) fun y54 =>
  chk (ln y54.1 + ln y54.2.1 ≤ 9223372036854775807) <|
  Option.bind (
  lt (decide ((w64 (z11.2 - (ln y54.2.1))) < 0)) fun x63 =>
  cond x63 (
  lt (w64 ((ln (y54.1 ++ y54.2.1)) + (w64 (z11.2 - (ln y54.2.1))))) fun x66 =>
  chk (0 ≤ (if 0 < x66 then x66 else 0) ∧ (if 0 < x66 then x66 else 0) ≤ ln (y54.1 ++ y54.2.1)) <|
  lt (sub (y54.1 ++ y54.2.1) 0 (if 0 < x66 then x66 else 0)) fun x68 =>
  some x68) (
  some (y54.1 ++ y54.2.1))) fun (z62 : Str) =>
  Option.bind (
  token_thousandths_L2 m z62 m 0 0) fun (z73 : Int) =>
  Option.bind (
  token_thousandths_L3 m  m (w64 (z11.2 - (ln y54.2.1))) z73) fun (z96 : Int) =>
  Option.bind (
  cond ((bat s 0) == 45) (
  some (w64 (0 - z96))) (
  some z96)) fun (z109 : Int) =>
  some z109
theorem token_thousandths_w  (M : Av) (m : Nat) (s : Str) (r : Int) (hm : token_thousandths m s = some r) (w : World) (hS : S0 M [] w) : Calls Tryd.prog 31 ⟨[.string ⟨⟨s⟩⟩]⟩ w (fun e w' => ∃ v, e = .returned v ∧ v = .int .i64 r ∧ SH M (fpl []) w [] w') := by
  rw [token_thousandths] at hm
  have hS0 : SH M (fpl []) w [] w := hS
  generalize hX : fpl [] = X at hS0 ⊢
  clear hS hX
  have hS := hS0
  clear hS0
  refine calls_entryP Tryd.func31 rfl Tryd.ntmps31 rfl fun _ H => ?_
  refine s_reg [] [0] [(0, [], .string ⟨⟨s⟩⟩)] [] H (by kernel_rfl) trivial fun _ wd1 H2 hb => ?_
  clear H
  replace hS := hS.below hb
  clear hb
  obtain ⟨ho3, hm⟩ := chkE hm
  refine s_reg [] [0, 3] [(0, [], .string ⟨⟨s⟩⟩), (3, [], .bool ((bat s 0) == 45))] [fun _ => 0 ≤ (0 : Int) ∧ (0 : Int) < ln s] H2 (by kernel_rfl) ⟨ho3, trivial⟩ fun _ wd4 H5 hb => ?_
  clear H2
  replace hS := hS.below hb
  clear hb
  obtain ⟨y6, hy6, hm⟩ := bindE hm
  refine s_reg [(.string ⟨⟨y6⟩⟩)] [0, 3] [(0, [], .string ⟨⟨y6⟩⟩), (3, [], .bool ((bat s 0) == 45))] [fun wz => RetB Tryd.prog 40 ⟨[.string ⟨⟨s⟩⟩, .string ⟨⟨[43, 45]⟩⟩]⟩ (.string ⟨⟨y6⟩⟩) wz] H5 (by kernel_rfl) ⟨(x_strings_TrimLeft_ok _ _ _ hy6 _), trivial⟩ fun _ wd7 H8 hb => ?_
  clear H5
  replace hS := hS.below hb
  clear hb
  refine s_reg [] [0, 3, 4] [(0, [], .string ⟨⟨y6⟩⟩), (3, [], .bool ((bat s 0) == 45)), (4, [], .int .i64 3)] [] H8 (by kernel_rfl) trivial fun _ wd9 H10 hb => ?_
  clear H8
  replace hS := hS.below hb
  clear hb
  obtain ⟨z11, hz, hm⟩ := bindE hm
  refine w_cut (fun a' w' => Fr 112 [(3, [], .bool ((bat s 0) == 45)), (0, [], .string ⟨⟨z11.1⟩⟩), (4, [], .int .i64 z11.2)] a' ∧ SH M X w [] w') ?_ ?_
  · replace hm := hz
    obtain ⟨y12, hy12, hm⟩ := bindE hm
    refine s_reg [(.int .i64 y12)] [0, 3, 4, 5] [(0, [], .string ⟨⟨y6⟩⟩), (3, [], .bool ((bat s 0) == 45)), (4, [], .int .i64 3), (5, [], .int .i64 y12)] [fun wz => RetB Tryd.prog 41 ⟨[.string ⟨⟨y6⟩⟩, .string ⟨⟨[101, 69]⟩⟩]⟩ (.int .i64 y12) wz] H10 (by kernel_rfl) ⟨(x_strings_IndexAny_ok _ _ _ hy12 _), trivial⟩ fun _ wd13 H14 hb => ?_
    clear H10
    replace hS := hS.below hb
    clear hb
    refine s_reg [] [0, 3, 4, 5, 23] [(0, [], .string ⟨⟨y6⟩⟩), (3, [], .bool ((bat s 0) == 45)), (4, [], .int .i64 3), (5, [], .int .i64 y12), (23, [], .bool (decide (0 ≤ y12)))] [] H14 (by kernel_rfl) trivial fun _ wd15 H16 hb => ?_
    clear H14
    replace hS := hS.below hb
    clear hb
    refine w_if H16 rfl (fun hc => ?_) (fun hc => ?_)
    · replace hm := bT hc hm
      refine s_reg [] [0, 3, 4, 5, 6] [(0, [], .string ⟨⟨y6⟩⟩), (3, [], .bool ((bat s 0) == 45)), (4, [], .int .i64 3), (5, [], .int .i64 y12), (6, [], .int .i64 0)] [] H16 (by kernel_rfl) trivial fun _ wd17 H18 hb => ?_
      clear H16
      replace hS := hS.below hb
      clear hb
      obtain ⟨z19, hz, hm⟩ := bindE hm
      refine w_cut (fun a' w' => Fr 112 [(0, [], .string ⟨⟨y6⟩⟩), (3, [], .bool ((bat s 0) == 45)), (4, [], .int .i64 3), (5, [], .int .i64 y12), (6, [], .int .i64 z19)] a' ∧ SH M X w [] w') ?_ ?_
      · replace hm := hz
        refine w_seq ?_
        refine wl_start ?_
        obtain ⟨ho20, hm⟩ := chkE hm
        obtain ⟨y21, hy21, hm⟩ := bindE hm
        refine wl_batch 0 5 [(.string ⟨⟨y21⟩⟩)] [0, 3, 4, 5, 6, 28] [(0, [], .string ⟨⟨y6⟩⟩), (3, [], .bool ((bat s 0) == 45)), (4, [], .int .i64 3), (5, [], .int .i64 y12), (6, [], .int .i64 0), (28, [], .string ⟨⟨y21⟩⟩)] [fun _ => 0 ≤ (w64 (y12 + 1)) ∧ (w64 (y12 + 1)) ≤ ln y6, fun wz => RetB Tryd.prog 40 ⟨[.string ⟨⟨sub y6 (w64 (y12 + 1)) (ln y6)⟩⟩, .string ⟨⟨[43, 45]⟩⟩]⟩ (.string ⟨⟨y21⟩⟩) wz] H18 (by decide) (by kernel_rfl) ⟨ho20, (x_strings_TrimLeft_ok _ _ _ hy21 _), trivial⟩ fun _ wd22 H23 hb => ?_
        clear H18
        replace hS := hS.below hb
        clear hb
        have hd : S0 (AvL M []) [] _ := hS.hand [] [] rfl rfl
        refine m_stp [29, 0, 3, 4, 5, 6] [(0, [], .string ⟨⟨y6⟩⟩), (3, [], .bool ((bat s 0) == 45)), (4, [], .int .i64 3), (5, [], .int .i64 y12), (6, [], .int .i64 0)] H23 rfl rfl rfl rfl (o_bytes (E := 5) H23 hd rfl (by kernel_rfl) (by kernel_rfl) (by kernel_rfl)) (fun _ => rfl) fun _ wd26 v H27 hq => ?_
        clear H23 hd
        obtain ⟨b24, c25, rfl, hc_b24, hq⟩ := hq
        replace hS : SH M X w [Ent.row .u8 b24 (ofB y21) (ln (ofB y21))] _ := hS.join [] [] rfl rfl hq
        clear hq
        refine wl_batch 6 8 [] [0, 3, 4, 5, 6, 29, 30, 31] [(0, [], .string ⟨⟨y6⟩⟩), (3, [], .bool ((bat s 0) == 45)), (4, [], .int .i64 3), (5, [], .int .i64 y12), (6, [], .int .i64 0), (29, [], .slice (some ⟨b24, 0, none⟩) ((ofB y21).length) c25), (30, [], .int .i64 (ln (ofB y21))), (31, [], .int .i64 0)] [] H27 (by decide) (by kernel_rfl) trivial fun _ wd28 H29 hb => ?_
        clear H27
        replace hS := hS.below hb
        clear hb
        refine wl_end rfl ?_
        refine w_block ?_
        refine w_loop (fun kk a' w' => ∃ (v30 : Int) (v31 : Int), token_thousandths_L1 m y21 kk v30 v31 = some _ ∧ Fr 112 [(0, [], .string ⟨⟨y6⟩⟩), (3, [], .bool ((bat s 0) == 45)), (4, [], .int .i64 3), (5, [], .int .i64 y12), (29, [], .slice (some ⟨b24, 0, none⟩) ((ofB y21).length) c25), (30, [], .int .i64 (ln (ofB y21))), (6, [], .int .i64 v30), (31, [], .int .i64 v31)] a' ∧ SH M X w [Ent.row .u8 b24 (ofB y21) (ln (ofB y21))] w') ⟨_, 0, 0, hm, Fr.keep (ks := [0, 3, 4, 5, 29, 30, 6, 31]) H29 (by kernel_rfl), hS⟩ ?_
        clear hm H29 hS
        rintro kk _ wd42 ⟨v30, v31, hm, H, hS⟩
        cases kk with
        | zero => exact noneE hm
        | succ kk =>
          rw [token_thousandths_L1] at hm
          refine s_reg [] [0, 3, 4, 5, 6, 29, 30, 31, 32] [(0, [], .string ⟨⟨y6⟩⟩), (3, [], .bool ((bat s 0) == 45)), (4, [], .int .i64 3), (5, [], .int .i64 y12), (6, [], .int .i64 v30), (29, [], .slice (some ⟨b24, 0, none⟩) ((ofB y21).length) c25), (30, [], .int .i64 (ln (ofB y21))), (31, [], .int .i64 v31), (32, [], .bool (decide (v31 < (ln (ofB y21)))))] [] H (by kernel_rfl) trivial fun _ wd32 H33 hb => ?_
          clear H
          replace hS := hS.below hb
          clear hb
          refine w_seq ?_
          refine w_if H33 rfl (fun hc => ?_) (fun hc => ?_)
          · replace hm := bT hc hm
            refine w_skip ?_
            refine w_seq ?_
            refine w_block ?_
            obtain ⟨ho34, hm⟩ := chkE hm
            refine s_reg [(.int .u8 (gi (ofB y21) v31))] [0, 3, 4, 5, 6, 8, 29, 30, 31] [(0, [], .string ⟨⟨y6⟩⟩), (3, [], .bool ((bat s 0) == 45)), (4, [], .int .i64 3), (5, [], .int .i64 y12), (6, [], .int .i64 v30), (8, [], .int .u8 (gi (ofB y21) v31)), (29, [], .slice (some ⟨b24, 0, none⟩) ((ofB y21).length) c25), (30, [], .int .i64 (ln (ofB y21))), (31, [], .int .i64 v31)] [fun _ => oka (some ⟨b24, 0, none⟩) ∧ 0 ≤ v31 ∧ v31 < ln (ofB y21), fun wz => V.at1 ⟨b24, 0 + (v31).toNat * 1, none⟩ (.int .u8 (gi (ofB y21) v31)) wz] H33 (by kernel_rfl) ⟨(⟨rfl, ho34⟩), (Rw.ixn (hS.rw 0 rfl) ho34), trivial⟩ fun _ wd35 H36 hb => ?_
            clear H33
            replace hS := hS.below hb
            clear hb
            obtain ⟨x37, hx37, hm⟩ := letE hm
            refine w_reg [] [0, 3, 4, 5, 6, 29, 30, 31] [(0, [], .string ⟨⟨y6⟩⟩), (3, [], .bool ((bat s 0) == 45)), (4, [], .int .i64 3), (5, [], .int .i64 y12), (6, [], .int .i64 (if 1048576 < x37 then 1048576 else x37)), (29, [], .slice (some ⟨b24, 0, none⟩) ((ofB y21).length) c25), (30, [], .int .i64 (ln (ofB y21))), (31, [], .int .i64 v31)] [] H36 (by subst hx37; kernel_rfl) trivial fun _ wd38 H39 hb => ?_
            clear H36
            replace hS := hS.below hb
            clear hb
            refine w_reg [] [0, 3, 4, 5, 6, 29, 30, 31] [(0, [], .string ⟨⟨y6⟩⟩), (3, [], .bool ((bat s 0) == 45)), (4, [], .int .i64 3), (5, [], .int .i64 y12), (6, [], .int .i64 (if 1048576 < x37 then 1048576 else x37)), (29, [], .slice (some ⟨b24, 0, none⟩) ((ofB y21).length) c25), (30, [], .int .i64 (ln (ofB y21))), (31, [], .int .i64 (w64 (v31 + 1)))] [] H39 (by kernel_rfl) trivial fun _ wd40 H41 hb => ?_
            clear H39
            replace hS := hS.below hb
            clear hb
            exact ⟨_, Nat.lt_succ_self _, if 1048576 < x37 then 1048576 else x37, w64 (v31 + 1), hm, Fr.keep (ks := [0, 3, 4, 5, 29, 30, 6, 31]) H41 (by kernel_rfl), hS⟩
          · replace hm := bF hc hm
            refine w_exit rfl ?_
            obtain rfl := someE hm
            replace hS : SH M X w [] _ := hS.sel [] rfl
            exact ⟨Fr.keep (ks := [0, 3, 4, 5, 6]) H33 (by kernel_rfl), hS⟩
      · rintro _ wd53 ⟨H, hS⟩
        obtain ⟨z43, hz, hm⟩ := bindE hm
        refine w_cut (fun a' w' => Fr 112 [(0, [], .string ⟨⟨y6⟩⟩), (3, [], .bool ((bat s 0) == 45)), (4, [], .int .i64 3), (5, [], .int .i64 y12), (6, [], .int .i64 z43)] a' ∧ SH M X w [] w') ?_ ?_
        · replace hm := hz
          obtain ⟨ho44, hm⟩ := chkE hm
          refine s_reg [] [0, 3, 4, 5, 6, 47] [(0, [], .string ⟨⟨y6⟩⟩), (3, [], .bool ((bat s 0) == 45)), (4, [], .int .i64 3), (5, [], .int .i64 y12), (6, [], .int .i64 z19), (47, [], .bool ((bat y6 (w64 (y12 + 1))) == 45))] [fun _ => 0 ≤ (w64 (y12 + 1)) ∧ (w64 (y12 + 1)) < ln y6] H (by kernel_rfl) ⟨ho44, trivial⟩ fun _ wd45 H46 hb => ?_
          clear H
          replace hS := hS.below hb
          clear hb
          refine w_if H46 rfl (fun hc => ?_) (fun hc => ?_)
          · replace hm := bT hc hm
            refine w_reg [] [0, 3, 4, 5, 6] [(0, [], .string ⟨⟨y6⟩⟩), (3, [], .bool ((bat s 0) == 45)), (4, [], .int .i64 3), (5, [], .int .i64 y12), (6, [], .int .i64 (w64 (0 - z19)))] [] H46 (by kernel_rfl) trivial fun _ wd47 H48 hb => ?_
            clear H46
            replace hS := hS.below hb
            clear hb
            obtain rfl := someE hm
            exact ⟨Fr.keep (ks := [0, 3, 4, 5, 6]) H48 (by kernel_rfl), hS⟩
          · replace hm := bF hc hm
            refine w_skip ?_
            obtain rfl := someE hm
            exact ⟨Fr.keep (ks := [0, 3, 4, 5, 6]) H46 (by kernel_rfl), hS⟩
        · rintro _ wd52 ⟨H, hS⟩
          obtain ⟨ho49, hm⟩ := chkE hm
          refine w_draw [] [0, 3, 4] [(0, [], .string ⟨⟨sub y6 0 y12⟩⟩), (3, [], .bool ((bat s 0) == 45)), (4, [], .int .i64 (w64 (3 + z43)))] [fun _ => 0 ≤ y12 ∧ y12 ≤ ln y6] H (by kernel_rfl) (by kernel_rfl) (by kernel_rfl) ⟨ho49, trivial⟩ fun _ wd50 H51 hb => ?_
          clear H
          replace hS := hS.below hb
          clear hb
          obtain rfl := someE hm
          exact ⟨Fr.keep (ks := [3, 0, 4]) H51 (by kernel_rfl), hS⟩
    · replace hm := bF hc hm
      refine w_skip ?_
      obtain rfl := someE hm
      exact ⟨Fr.keep (ks := [3, 0, 4]) H16 (by kernel_rfl), hS⟩
  · rintro _ wd120 ⟨H, hS⟩
    obtain ⟨y54, hy54, hm⟩ := bindE hm
    refine s_reg [(.tuple ⟨[.string ⟨⟨y54.1⟩⟩, .string ⟨⟨y54.2.1⟩⟩, .bool y54.2.2]⟩)] [3, 4, 9, 10] [(3, [], .bool ((bat s 0) == 45)), (4, [], .int .i64 z11.2), (9, [], .string ⟨⟨y54.1⟩⟩), (10, [], .string ⟨⟨y54.2.1⟩⟩)] [fun wz => RetB Tryd.prog 42 ⟨[.string ⟨⟨z11.1⟩⟩, .string ⟨⟨[46]⟩⟩]⟩ (.tuple ⟨[.string ⟨⟨y54.1⟩⟩, .string ⟨⟨y54.2.1⟩⟩, .bool y54.2.2]⟩) wz] H (by kernel_rfl) ⟨((strings_Cut_ok _ _ _ hy54).b), trivial⟩ fun _ wd55 H56 hb => ?_
    clear H
    replace hS := hS.below hb
    clear hb
    refine s_reg [] [3, 4, 9, 10] [(3, [], .bool ((bat s 0) == 45)), (4, [], .int .i64 (w64 (z11.2 - (ln y54.2.1)))), (9, [], .string ⟨⟨y54.1⟩⟩), (10, [], .string ⟨⟨y54.2.1⟩⟩)] [] H56 (by kernel_rfl) trivial fun _ wd57 H58 hb => ?_
    clear H56
    replace hS := hS.below hb
    clear hb
    obtain ⟨ho59, hm⟩ := chkE hm
    refine s_reg [] [0, 3, 4] [(0, [], .string ⟨⟨y54.1 ++ y54.2.1⟩⟩), (3, [], .bool ((bat s 0) == 45)), (4, [], .int .i64 (w64 (z11.2 - (ln y54.2.1))))] [fun _ => ln y54.1 + ln y54.2.1 ≤ 9223372036854775807] H58 (by kernel_rfl) ⟨ho59, trivial⟩ fun _ wd60 H61 hb => ?_
    clear H58
    replace hS := hS.below hb
    clear hb
    obtain ⟨z62, hz, hm⟩ := bindE hm
    refine w_cut (fun a' w' => Fr 112 [(3, [], .bool ((bat s 0) == 45)), (4, [], .int .i64 (w64 (z11.2 - (ln y54.2.1)))), (0, [], .string ⟨⟨z62⟩⟩)] a' ∧ SH M X w [] w') ?_ ?_
    · replace hm := hz
      obtain ⟨x63, hx63, hm⟩ := letE hm
      refine s_reg [] [0, 3, 4, 70] [(0, [], .string ⟨⟨y54.1 ++ y54.2.1⟩⟩), (3, [], .bool ((bat s 0) == 45)), (4, [], .int .i64 (w64 (z11.2 - (ln y54.2.1)))), (70, [], .bool x63)] [] H61 (by subst hx63; kernel_rfl) trivial fun _ wd64 H65 hb => ?_
      clear H61
      replace hS := hS.below hb
      clear hb
      refine w_if H65 rfl (fun hc => ?_) (fun hc => ?_)
      · replace hm := bT hc hm
        obtain ⟨x66, hx66, hm⟩ := letE hm
        obtain ⟨ho67, hm⟩ := chkE hm
        obtain ⟨x68, hx68, hm⟩ := letE hm
        refine w_reg [] [0, 3, 4] [(0, [], .string ⟨⟨x68⟩⟩), (3, [], .bool ((bat s 0) == 45)), (4, [], .int .i64 (w64 (z11.2 - (ln y54.2.1))))] [fun _ => 0 ≤ (if 0 < x66 then x66 else 0) ∧ (if 0 < x66 then x66 else 0) ≤ ln (y54.1 ++ y54.2.1)] H65 (by subst hx66 hx68; kernel_rfl) ⟨ho67, trivial⟩ fun _ wd69 H70 hb => ?_
        clear H65
        replace hS := hS.below hb
        clear hb
        obtain rfl := someE hm
        exact ⟨Fr.keep (ks := [3, 4, 0]) H70 (by kernel_rfl), hS⟩
      · replace hm := bF hc hm
        refine w_skip ?_
        obtain rfl := someE hm
        exact ⟨Fr.keep (ks := [3, 4, 0]) H65 (by kernel_rfl), hS⟩
    · rintro _ wd119 ⟨H, hS⟩
      refine s_reg [] [0, 3, 4, 12] [(0, [], .string ⟨⟨z62⟩⟩), (3, [], .bool ((bat s 0) == 45)), (4, [], .int .i64 (w64 (z11.2 - (ln y54.2.1)))), (12, [], .int .i64 0)] [] H (by kernel_rfl) trivial fun _ wd71 H72 hb => ?_
      clear H
      replace hS := hS.below hb
      clear hb
      obtain ⟨z73, hz, hm⟩ := bindE hm
      refine w_cut (fun a' w' => Fr 112 [(3, [], .bool ((bat s 0) == 45)), (4, [], .int .i64 (w64 (z11.2 - (ln y54.2.1)))), (12, [], .int .i64 z73)] a' ∧ SH M X w [] w') ?_ ?_
      · replace hm := hz
        refine w_seq ?_
        refine wl_start ?_
        refine wl_batch 0 1 [] [3, 4, 12, 78] [(3, [], .bool ((bat s 0) == 45)), (4, [], .int .i64 (w64 (z11.2 - (ln y54.2.1)))), (12, [], .int .i64 0), (78, [], .string ⟨⟨z62⟩⟩)] [] H72 (by decide) (by kernel_rfl) trivial fun _ wd74 H75 hb => ?_
        clear H72
        replace hS := hS.below hb
        clear hb
        have hd : S0 (AvL M []) [] _ := hS.hand [] [] rfl rfl
        refine m_stp [79, 3, 4, 12] [(3, [], .bool ((bat s 0) == 45)), (4, [], .int .i64 (w64 (z11.2 - (ln y54.2.1)))), (12, [], .int .i64 0)] H75 rfl rfl rfl rfl (o_bytes (E := 5) H75 hd rfl (by kernel_rfl) (by kernel_rfl) (by kernel_rfl)) (fun _ => rfl) fun _ wd78 v H79 hq => ?_
        clear H75 hd
        obtain ⟨b76, c77, rfl, hc_b76, hq⟩ := hq
        replace hS : SH M X w [Ent.row .u8 b76 (ofB z62) (ln (ofB z62))] _ := hS.join [] [] rfl rfl hq
        clear hq
        refine wl_batch 2 4 [] [3, 4, 12, 79, 80, 81] [(3, [], .bool ((bat s 0) == 45)), (4, [], .int .i64 (w64 (z11.2 - (ln y54.2.1)))), (12, [], .int .i64 0), (79, [], .slice (some ⟨b76, 0, none⟩) ((ofB z62).length) c77), (80, [], .int .i64 (ln (ofB z62))), (81, [], .int .i64 0)] [] H79 (by decide) (by kernel_rfl) trivial fun _ wd80 H81 hb => ?_
        clear H79
        replace hS := hS.below hb
        clear hb
        refine wl_end rfl ?_
        refine w_block ?_
        refine w_loop (fun kk a' w' => ∃ (v82 : Int) (v83 : Int), token_thousandths_L2 m z62 kk v82 v83 = some _ ∧ Fr 112 [(3, [], .bool ((bat s 0) == 45)), (4, [], .int .i64 (w64 (z11.2 - (ln y54.2.1)))), (79, [], .slice (some ⟨b76, 0, none⟩) ((ofB z62).length) c77), (80, [], .int .i64 (ln (ofB z62))), (12, [], .int .i64 v82), (81, [], .int .i64 v83)] a' ∧ SH M X w [Ent.row .u8 b76 (ofB z62) (ln (ofB z62))] w') ⟨_, 0, 0, hm, Fr.keep (ks := [3, 4, 79, 80, 12, 81]) H81 (by kernel_rfl), hS⟩ ?_
        clear hm H81 hS
        rintro kk _ wd95 ⟨v82, v83, hm, H, hS⟩
        cases kk with
        | zero => exact noneE hm
        | succ kk =>
          rw [token_thousandths_L2] at hm
          refine s_reg [] [3, 4, 12, 79, 80, 81, 82] [(3, [], .bool ((bat s 0) == 45)), (4, [], .int .i64 (w64 (z11.2 - (ln y54.2.1)))), (12, [], .int .i64 v82), (79, [], .slice (some ⟨b76, 0, none⟩) ((ofB z62).length) c77), (80, [], .int .i64 (ln (ofB z62))), (81, [], .int .i64 v83), (82, [], .bool (decide (v83 < (ln (ofB z62)))))] [] H (by kernel_rfl) trivial fun _ wd84 H85 hb => ?_
          clear H
          replace hS := hS.below hb
          clear hb
          refine w_seq ?_
          refine w_if H85 rfl (fun hc => ?_) (fun hc => ?_)
          · replace hm := bT hc hm
            refine w_skip ?_
            refine w_seq ?_
            refine w_block ?_
            obtain ⟨ho86, hm⟩ := chkE hm
            refine s_reg [(.int .u8 (gi (ofB z62) v83))] [3, 4, 12, 14, 79, 80, 81] [(3, [], .bool ((bat s 0) == 45)), (4, [], .int .i64 (w64 (z11.2 - (ln y54.2.1)))), (12, [], .int .i64 v82), (14, [], .int .u8 (gi (ofB z62) v83)), (79, [], .slice (some ⟨b76, 0, none⟩) ((ofB z62).length) c77), (80, [], .int .i64 (ln (ofB z62))), (81, [], .int .i64 v83)] [fun _ => oka (some ⟨b76, 0, none⟩) ∧ 0 ≤ v83 ∧ v83 < ln (ofB z62), fun wz => V.at1 ⟨b76, 0 + (v83).toNat * 1, none⟩ (.int .u8 (gi (ofB z62) v83)) wz] H85 (by kernel_rfl) ⟨(⟨rfl, ho86⟩), (Rw.ixn (hS.rw 0 rfl) ho86), trivial⟩ fun _ wd87 H88 hb => ?_
            clear H85
            replace hS := hS.below hb
            clear hb
            obtain ⟨x89, hx89, hm⟩ := letE hm
            obtain ⟨x90, hx90, hm⟩ := letE hm
            refine w_reg [] [3, 4, 12, 79, 80, 81] [(3, [], .bool ((bat s 0) == 45)), (4, [], .int .i64 (w64 (z11.2 - (ln y54.2.1)))), (12, [], .int .i64 x90), (79, [], .slice (some ⟨b76, 0, none⟩) ((ofB z62).length) c77), (80, [], .int .i64 (ln (ofB z62))), (81, [], .int .i64 v83)] [] H88 (by subst hx89 hx90; kernel_rfl) trivial fun _ wd91 H92 hb => ?_
            clear H88
            replace hS := hS.below hb
            clear hb
            refine w_reg [] [3, 4, 12, 79, 80, 81] [(3, [], .bool ((bat s 0) == 45)), (4, [], .int .i64 (w64 (z11.2 - (ln y54.2.1)))), (12, [], .int .i64 x90), (79, [], .slice (some ⟨b76, 0, none⟩) ((ofB z62).length) c77), (80, [], .int .i64 (ln (ofB z62))), (81, [], .int .i64 (w64 (v83 + 1)))] [] H92 (by kernel_rfl) trivial fun _ wd93 H94 hb => ?_
            clear H92
            replace hS := hS.below hb
            clear hb
            exact ⟨_, Nat.lt_succ_self _, x90, w64 (v83 + 1), hm, Fr.keep (ks := [3, 4, 79, 80, 12, 81]) H94 (by kernel_rfl), hS⟩
          · replace hm := bF hc hm
            refine w_exit rfl ?_
            obtain rfl := someE hm
            replace hS : SH M X w [] _ := hS.sel [] rfl
            exact ⟨Fr.keep (ks := [3, 4, 12]) H85 (by kernel_rfl), hS⟩
      · rintro _ wd118 ⟨H, hS⟩
        obtain ⟨z96, hz, hm⟩ := bindE hm
        refine w_cut (fun a' w' => Fr 112 [(3, [], .bool ((bat s 0) == 45)), (12, [], .int .i64 z96)] a' ∧ SH M X w [] w') ?_ ?_
        · replace hm := hz
          refine w_block ?_
          refine w_loop (fun kk a' w' => ∃ (v97 : Int) (v98 : Int), token_thousandths_L3 m  kk v97 v98 = some _ ∧ Fr 112 [(3, [], .bool ((bat s 0) == 45)), (4, [], .int .i64 v97), (12, [], .int .i64 v98)] a' ∧ SH M X w [] w') ⟨_, w64 (z11.2 - (ln y54.2.1)), z73, hm, Fr.keep (ks := [3, 4, 12]) H (by kernel_rfl), hS⟩ ?_
          clear hm H hS
          rintro kk _ wd108 ⟨v97, v98, hm, H, hS⟩
          cases kk with
          | zero => exact noneE hm
          | succ kk =>
            rw [token_thousandths_L3] at hm
            refine w_seq ?_
            obtain ⟨x99, hx99, hm⟩ := letE hm
            obtain ⟨x100, hx100, hm⟩ := letE hm
            refine s_reg [] [3, 4, 12, 102] [(3, [], .bool ((bat s 0) == 45)), (4, [], .int .i64 v97), (12, [], .int .i64 v98), (102, [], .bool x100)] [] H (by subst hx99 hx100; kernel_rfl) trivial fun _ wd101 H102 hb => ?_
            clear H
            replace hS := hS.below hb
            clear hb
            refine w_if H102 rfl (fun hc => ?_) (fun hc => ?_)
            · replace hm := bT hc hm
              refine w_skip ?_
              refine w_seq ?_
              refine w_block ?_
              obtain ⟨x103, hx103, hm⟩ := letE hm
              refine w_reg [] [3, 4, 12] [(3, [], .bool ((bat s 0) == 45)), (4, [], .int .i64 v97), (12, [], .int .i64 x103)] [] H102 (by subst hx103; kernel_rfl) trivial fun _ wd104 H105 hb => ?_
              clear H102
              replace hS := hS.below hb
              clear hb
              refine w_reg [] [3, 4, 12] [(3, [], .bool ((bat s 0) == 45)), (4, [], .int .i64 (w64 (v97 - 1))), (12, [], .int .i64 x103)] [] H105 (by kernel_rfl) trivial fun _ wd106 H107 hb => ?_
              clear H105
              replace hS := hS.below hb
              clear hb
              exact ⟨_, Nat.lt_succ_self _, w64 (v97 - 1), x103, hm, Fr.keep (ks := [3, 4, 12]) H107 (by kernel_rfl), hS⟩
            · replace hm := bF hc hm
              refine w_exit rfl ?_
              obtain rfl := someE hm
              exact ⟨Fr.keep (ks := [3, 12]) H102 (by kernel_rfl), hS⟩
        · rintro _ wd117 ⟨H, hS⟩
          obtain ⟨z109, hz, hm⟩ := bindE hm
          refine w_cut (fun a' w' => Fr 112 [(12, [], .int .i64 z109)] a' ∧ SH M X w [] w') ?_ ?_
          · replace hm := hz
            refine s_reg [] [12, 108] [(12, [], .int .i64 z96), (108, [], .bool ((bat s 0) == 45))] [] H (by kernel_rfl) trivial fun _ wd110 H111 hb => ?_
            clear H
            replace hS := hS.below hb
            clear hb
            refine w_if H111 rfl (fun hc => ?_) (fun hc => ?_)
            · replace hm := bT hc hm
              refine w_reg [] [12] [(12, [], .int .i64 (w64 (0 - z96)))] [] H111 (by kernel_rfl) trivial fun _ wd112 H113 hb => ?_
              clear H111
              replace hS := hS.below hb
              clear hb
              obtain rfl := someE hm
              exact ⟨Fr.keep (ks := [12]) H113 (by kernel_rfl), hS⟩
            · replace hm := bF hc hm
              refine w_skip ?_
              obtain rfl := someE hm
              exact ⟨Fr.keep (ks := [12]) H111 (by kernel_rfl), hS⟩
          · rintro _ wd116 ⟨H, hS⟩
            refine s_reg [] [2] [(2, [], .int .i64 z109)] [] H (by kernel_rfl) trivial fun _ wd114 H115 hb => ?_
            clear H
            replace hS := hS.below hb
            clear hb
            refine w_ret ?_
            obtain rfl := someE hm
            exact retR1 H115 rfl rfl ⟨_, rfl, rfl, (hS.sel [] rfl)⟩
theorem token_thousandths_ok  (m : Nat) (s : Str) (r : Int) (hm : token_thousandths m s = some r) : Ret Tryd.prog 31 ⟨[.string ⟨⟨s⟩⟩]⟩ (.int .i64 r) := retP_of (Tryd.call31 _) (fun w h => token_thousandths_w F0 m   s r hm w h)

def token_Value (m : Nat) (s : Str) : Option (Int × Bool × Int) :=
  cond (decide (4000 < (ln s))) (
  some (0, false, 28)) (
  Option.bind (token_scanner_number s 0) fun y14 =>
  cond (!y14) (
  some (0, false, 12)) (
  Option.bind (token_scanner_figures m s 0) fun y21 =>
  cond (decide (y21.2 < (ln s))) (
  some (0, false, 12)) (
  Option.bind (token_thousandths m s) fun y30 =>
  some (y30, y21.1, 0))))
theorem token_Value_w  (M : Av) (m : Nat) (s : Str) (r : Int × Bool × Int) (hm : token_Value m s = some r) (w : World) (hS : S0 M [] w) : Calls Tryd.prog 21 ⟨[.string ⟨⟨s⟩⟩]⟩ w (fun e w' => ∃ v, e = .returned v ∧ v = .tuple ⟨[.int .i64 r.1, .bool r.2.1, .int .i64 r.2.2]⟩ ∧ SH M (fpl []) w [] w') := by
  rw [token_Value] at hm
  have hS0 : SH M (fpl []) w [] w := hS
  generalize hX : fpl [] = X at hS0 ⊢
  clear hS hX
  have hS := hS0
  clear hS0
  refine calls_entryP Tryd.func21 rfl Tryd.ntmps21 rfl fun _ H => ?_
  refine s_reg [] [0] [(0, [], .string ⟨⟨s⟩⟩)] [] H (by kernel_rfl) trivial fun _ wd1 H2 hb => ?_
  clear H
  replace hS := hS.below hb
  clear hb
  refine w_seq ?_
  refine s_reg [] [0, 8] [(0, [], .string ⟨⟨s⟩⟩), (8, [], .bool (decide (4000 < (ln s))))] [] H2 (by kernel_rfl) trivial fun _ wd3 H4 hb => ?_
  clear H2
  replace hS := hS.below hb
  clear hb
  refine w_if H4 rfl (fun hc => ?_) (fun hc => ?_)
  · replace hm := bT hc hm
    refine s_reg [] [2, 3, 4] [(2, [], .int .i64 0), (3, [], .bool false), (4, [], .int .i64 28)] [] H4 (by kernel_rfl) trivial fun _ wd5 H6 hb => ?_
    clear H4
    replace hS := hS.below hb
    clear hb
    refine w_ret ?_
    obtain rfl := someE hm
    exact retR3 H6 rfl rfl rfl rfl ⟨_, rfl, rfl, (hS.sel [] rfl)⟩
  · replace hm := bF hc hm
    refine w_skip ?_
    refine w_seq ?_
    refine wl_start ?_
    refine wl_batch 0 2 [] [0, 10] [(0, [], .string ⟨⟨s⟩⟩), (10, [], .agg ⟨[.string ⟨⟨s⟩⟩, .int .i64 0]⟩)] [] H4 (by decide) (by kernel_rfl) trivial fun _ wd7 H8 hb => ?_
    clear H4
    replace hS := hS.below hb
    clear hb
    have hd : S0 (AvL M []) [] _ := hS.hand [] [] rfl rfl
    refine m_stp [11, 0] [(0, [], .string ⟨⟨s⟩⟩)] H8 rfl rfl rfl rfl (o_box [.string ⟨⟨s⟩⟩, .int .i64 0] H8 hd rfl rfl) (fun _ => rfl) fun _ wd10 v H11 hq => ?_
    clear H8 hd
    obtain ⟨b9, rfl, hq⟩ := hq
    replace hS : SH M X w [Ent.blk b9 [.string ⟨⟨s⟩⟩, .int .i64 0]] _ := hS.join [] [] rfl rfl hq
    clear hq
    refine wl_batch 3 4 [] [0, 5] [(0, [], .string ⟨⟨s⟩⟩), (5, [], .pointer (some ⟨b9, 0, none⟩))] [] H11 (by decide) (by kernel_rfl) trivial fun _ wd12 H13 hb => ?_
    clear H11
    replace hS := hS.below hb
    clear hb
    refine wl_end rfl ?_
    refine w_seq ?_
    obtain ⟨y14, hy14, hm⟩ := bindE hm
    refine s_reg [(.bool y14)] [0, 5, 14] [(0, [], .string ⟨⟨s⟩⟩), (5, [], .pointer (some ⟨b9, 0, none⟩)), (14, [], .bool (!y14))] [fun wz => RetB Tryd.prog 29 ⟨[.pointer (some ⟨b9, 0, none⟩)]⟩ (.bool y14) wz] H13 (by kernel_rfl) ⟨(token_scanner_number_ok (b_c := b9) _ _ _ hy14 _ (s0ro s0nil (hS.bk 0 rfl))), trivial⟩ fun _ wd15 H16 hb => ?_
    clear H13
    replace hS := hS.below hb
    clear hb
    refine w_if H16 rfl (fun hc => ?_) (fun hc => ?_)
    · replace hm := bT hc hm
      refine s_reg [] [2, 3, 4] [(2, [], .int .i64 0), (3, [], .bool false), (4, [], .int .i64 12)] [] H16 (by kernel_rfl) trivial fun _ wd17 H18 hb => ?_
      clear H16
      replace hS := hS.below hb
      clear hb
      replace hS : SH M X w [] _ := hS.sel [] rfl
      refine w_ret ?_
      obtain rfl := someE hm
      exact retR3 H18 rfl rfl rfl rfl ⟨_, rfl, rfl, (hS.sel [] rfl)⟩
    · replace hm := bF hc hm
      refine w_skip ?_
      refine w_seq ?_
      refine w_seq ?_
      refine wl_start ?_
      refine wl_batch 0 1 [] [0, 5, 15] [(0, [], .string ⟨⟨s⟩⟩), (5, [], .pointer (some ⟨b9, 0, none⟩)), (15, [], .pointer (some ⟨b9, 0, none⟩))] [] H16 (by decide) (by kernel_rfl) trivial fun _ wd19 H20 hb => ?_
      clear H16
      replace hS := hS.below hb
      clear hb
      obtain ⟨y21, hy21, hm⟩ := bindE hm
      have hd : S0 (AvL M []) [Ent.blk b9 [.string ⟨⟨s⟩⟩, .int .i64 0]] _ := hS.hand [0] [] rfl rfl
      refine m_stp [16, 0, 5] [(0, [], .string ⟨⟨s⟩⟩), (5, [], .pointer (some ⟨b9, 0, none⟩))] H20 rfl rfl rfl rfl (o_callx H20 rfl rfl (token_scanner_figures_ok (b_c := b9) m _ _ _ hy21 _ _ hd)) (fun _ => rfl) fun _ wd22 v H23 hq => ?_
      clear H20 hd
      obtain ⟨rfl, hq⟩ := hq
      replace hS : SH M X w [Ent.blk b9 [.string ⟨⟨s⟩⟩, .int .i64 y21.2]] _ := hS.join [0] [] rfl rfl hq
      clear hq
      refine wl_batch 2 3 [] [0, 3, 5] [(0, [], .string ⟨⟨s⟩⟩), (3, [], .bool y21.1), (5, [], .pointer (some ⟨b9, 0, none⟩))] [] H23 (by decide) (by kernel_rfl) trivial fun _ wd24 H25 hb => ?_
      clear H23
      replace hS := hS.below hb
      clear hb
      refine wl_end rfl ?_
      refine s_reg [(.int .i64 y21.2)] [0, 3, 23] [(0, [], .string ⟨⟨s⟩⟩), (3, [], .bool y21.1), (23, [], .bool (decide (y21.2 < (ln s))))] [fun wz => V.at1 ⟨b9, 1, none⟩ (.int .i64 y21.2) wz] H25 (by kernel_rfl) ⟨((hS.bk 0 rfl).at1 rfl), trivial⟩ fun _ wd26 H27 hb => ?_
      clear H25
      replace hS := hS.below hb
      clear hb
      replace hS : SH M X w [] _ := hS.sel [] rfl
      refine w_if H27 rfl (fun hc => ?_) (fun hc => ?_)
      · replace hm := bT hc hm
        refine s_reg [] [2, 3, 4] [(2, [], .int .i64 0), (3, [], .bool false), (4, [], .int .i64 12)] [] H27 (by kernel_rfl) trivial fun _ wd28 H29 hb => ?_
        clear H27
        replace hS := hS.below hb
        clear hb
        refine w_ret ?_
        obtain rfl := someE hm
        exact retR3 H29 rfl rfl rfl rfl ⟨_, rfl, rfl, (hS.sel [] rfl)⟩
      · replace hm := bF hc hm
        refine w_skip ?_
        obtain ⟨y30, hy30, hm⟩ := bindE hm
        refine s_reg [(.int .i64 y30)] [2, 3, 4] [(2, [], .int .i64 y30), (3, [], .bool y21.1), (4, [], .int .i64 0)] [fun wz => RetB Tryd.prog 31 ⟨[.string ⟨⟨s⟩⟩]⟩ (.int .i64 y30) wz] H27 (by kernel_rfl) ⟨((token_thousandths_ok m _ _ hy30).b), trivial⟩ fun _ wd31 H32 hb => ?_
        clear H27
        replace hS := hS.below hb
        clear hb
        refine w_ret ?_
        obtain rfl := someE hm
        exact retR3 H32 rfl rfl rfl rfl ⟨_, rfl, rfl, (hS.sel [] rfl)⟩
theorem token_Value_ok  (m : Nat) (s : Str) (r : Int × Bool × Int) (hm : token_Value m s = some r) : Ret Tryd.prog 21 ⟨[.string ⟨⟨s⟩⟩]⟩ (.tuple ⟨[.int .i64 r.1, .bool r.2.1, .int .i64 r.2.2]⟩) := retP_of (Tryd.call21 _) (fun w h => token_Value_w F0 m   s r hm w h)

def fixed_Read (m : Nat) (s : Str) : Option (Int × Int) :=
  Option.bind (token_Value m s) fun y3 =>
  some (y3.1, y3.2.2)
theorem fixed_Read_w  (M : Av) (m : Nat) (s : Str) (r : Int × Int) (hm : fixed_Read m s = some r) (w : World) (hS : S0 M [] w) : Calls Tryd.prog 6 ⟨[.string ⟨⟨s⟩⟩]⟩ w (fun e w' => ∃ v, e = .returned v ∧ v = .tuple ⟨[.int .i64 r.1, .int .i64 r.2]⟩ ∧ SH M (fpl []) w [] w') := by
  rw [fixed_Read] at hm
  have hS0 : SH M (fpl []) w [] w := hS
  generalize hX : fpl [] = X at hS0 ⊢
  clear hS hX
  have hS := hS0
  clear hS0
  refine calls_entryP Tryd.func6 rfl Tryd.ntmps6 rfl fun _ H => ?_
  refine s_reg [] [0] [(0, [], .string ⟨⟨s⟩⟩)] [] H (by kernel_rfl) trivial fun _ wd1 H2 hb => ?_
  clear H
  replace hS := hS.below hb
  clear hb
  obtain ⟨y3, hy3, hm⟩ := bindE hm
  refine s_reg [(.tuple ⟨[.int .i64 y3.1, .bool y3.2.1, .int .i64 y3.2.2]⟩)] [4, 6] [(4, [], .int .i64 y3.1), (6, [], .int .i64 y3.2.2)] [fun wz => RetB Tryd.prog 21 ⟨[.string ⟨⟨s⟩⟩]⟩ (.tuple ⟨[.int .i64 y3.1, .bool y3.2.1, .int .i64 y3.2.2]⟩) wz] H2 (by kernel_rfl) ⟨((token_Value_ok m _ _ hy3).b), trivial⟩ fun _ wd4 H5 hb => ?_
  clear H2
  replace hS := hS.below hb
  clear hb
  refine s_reg [] [2, 3] [(2, [], .int .i64 y3.1), (3, [], .int .i64 y3.2.2)] [] H5 (by kernel_rfl) trivial fun _ wd6 H7 hb => ?_
  clear H5
  replace hS := hS.below hb
  clear hb
  refine w_ret ?_
  obtain rfl := someE hm
  exact retR2 H7 rfl rfl rfl ⟨_, rfl, rfl, (hS.sel [] rfl)⟩
theorem fixed_Read_ok  (m : Nat) (s : Str) (r : Int × Int) (hm : fixed_Read m s = some r) : Ret Tryd.prog 6 ⟨[.string ⟨⟨s⟩⟩]⟩ (.tuple ⟨[.int .i64 r.1, .int .i64 r.2]⟩) := retP_of (Tryd.call6 _) (fun w h => fixed_Read_w F0 m   s r hm w h)

def r02_At (s : Str) (i : Int) : Option (Int) :=
  cond (decide (i < (ln s))) (
  chk (0 ≤ i ∧ i < ln s) <|
  some (bat s i)) (
  some 0)
theorem r02_At_w  (M : Av) (s : Str) (i : Int) (r : Int) (hm : r02_At s i = some r) (w : World) (hS : S0 M [] w) : Calls Tryd.prog 43 ⟨[.string ⟨⟨s⟩⟩, .int .i64 i]⟩ w (fun e w' => ∃ v, e = .returned v ∧ v = .int .u8 r ∧ SH M (fpl []) w [] w') := by
  rw [r02_At] at hm
  have hS0 : SH M (fpl []) w [] w := hS
  generalize hX : fpl [] = X at hS0 ⊢
  clear hS hX
  have hS := hS0
  clear hS0
  refine calls_entryP Tryd.func43 rfl Tryd.ntmps43 rfl fun _ H => ?_
  refine s_reg [] [0, 1] [(0, [], .string ⟨⟨s⟩⟩), (1, [], .int .i64 i)] [] H (by kernel_rfl) trivial fun _ wd1 H2 hb => ?_
  clear H
  replace hS := hS.below hb
  clear hb
  refine w_seq ?_
  refine s_reg [] [0, 1, 8] [(0, [], .string ⟨⟨s⟩⟩), (1, [], .int .i64 i), (8, [], .bool (decide (i < (ln s))))] [] H2 (by kernel_rfl) trivial fun _ wd3 H4 hb => ?_
  clear H2
  replace hS := hS.below hb
  clear hb
  refine w_if H4 rfl (fun hc => ?_) (fun hc => ?_)
  · replace hm := bT hc hm
    obtain ⟨ho5, hm⟩ := chkE hm
    refine s_reg [] [4] [(4, [], .int .u8 (bat s i))] [fun _ => 0 ≤ i ∧ i < ln s] H4 (by kernel_rfl) ⟨ho5, trivial⟩ fun _ wd6 H7 hb => ?_
    clear H4
    replace hS := hS.below hb
    clear hb
    refine w_ret ?_
    obtain rfl := someE hm
    exact retR1 H7 rfl rfl ⟨_, rfl, rfl, (hS.sel [] rfl)⟩
  · replace hm := bF hc hm
    refine w_skip ?_
    refine s_reg [] [4] [(4, [], .int .u8 0)] [] H4 (by kernel_rfl) trivial fun _ wd8 H9 hb => ?_
    clear H4
    replace hS := hS.below hb
    clear hb
    refine w_ret ?_
    obtain rfl := someE hm
    exact retR1 H9 rfl rfl ⟨_, rfl, rfl, (hS.sel [] rfl)⟩
theorem r02_At_ok  (s : Str) (i : Int) (r : Int) (hm : r02_At s i = some r) : Ret Tryd.prog 43 ⟨[.string ⟨⟨s⟩⟩, .int .i64 i]⟩ (.int .u8 r) := retP_of (Tryd.call43 _) (fun w h => r02_At_w F0   s i r hm w h)

def r02_Digit (c_ : Int) : Bool :=
  lt (cond (decide (48 ≤ c_)) (decide (c_ ≤ 57)) false) fun x3 =>
  x3
theorem r02_Digit_w  (M : Av) (c_ : Int) (r : Bool) (hm : r02_Digit c_ = r) (w : World) (hS : S0 M [] w) : Calls Tryd.prog 44 ⟨[.int .u8 c_]⟩ w (fun e w' => ∃ v, e = .returned v ∧ v = .bool r ∧ SH M (fpl []) w [] w') := by
  rw [r02_Digit] at hm
  have hS0 : SH M (fpl []) w [] w := hS
  generalize hX : fpl [] = X at hS0 ⊢
  clear hS hX
  have hS := hS0
  clear hS0
  refine calls_entryP Tryd.func44 rfl Tryd.ntmps44 rfl fun _ H => ?_
  refine s_reg [] [0] [(0, [], .int .u8 c_)] [] H (by kernel_rfl) trivial fun _ wd1 H2 hb => ?_
  clear H
  replace hS := hS.below hb
  clear hb
  obtain ⟨x3, hx3, hm⟩ := letE hm
  refine s_reg [] [2] [(2, [], .bool x3)] [] H2 (by subst hx3; kernel_rfl) trivial fun _ wd4 H5 hb => ?_
  clear H2
  replace hS := hS.below hb
  clear hb
  refine w_ret ?_
  subst hm
  exact retR1 H5 rfl rfl ⟨_, rfl, rfl, (hS.sel [] rfl)⟩
theorem r02_Digit_ok  (c_ : Int) : Ret Tryd.prog 44 ⟨[.int .u8 c_]⟩ (.bool (r02_Digit c_)) := retP_of (Tryd.call44 _) (fun w h => r02_Digit_w F0   c_ _ rfl w h)

def r02_NumberAt (s : Str) (i : Int) : Option (Bool) :=
  Option.bind (
  Option.bind (r02_At s i) fun y4 =>
  cond (cond (y4 == 43) true (y4 == 45)) (
  some (w64 (i + 1))) (
  some i)) fun (z3 : Int) =>
  Option.bind (
  Option.bind (r02_At s z3) fun y12 =>
  cond (y12 == 46) (
  some (w64 (z3 + 1))) (
  some z3)) fun (z11 : Int) =>
  Option.bind (r02_At s z11) fun y17 =>
  some (r02_Digit y17)
theorem r02_NumberAt_w  (M : Av) (s : Str) (i : Int) (r : Bool) (hm : r02_NumberAt s i = some r) (w : World) (hS : S0 M [] w) : Calls Tryd.prog 32 ⟨[.string ⟨⟨s⟩⟩, .int .i64 i]⟩ w (fun e w' => ∃ v, e = .returned v ∧ v = .bool r ∧ SH M (fpl []) w [] w') := by
  rw [r02_NumberAt] at hm
  have hS0 : SH M (fpl []) w [] w := hS
  generalize hX : fpl [] = X at hS0 ⊢
  clear hS hX
  have hS := hS0
  clear hS0
  refine calls_entryP Tryd.func32 rfl Tryd.ntmps32 rfl fun _ H => ?_
  refine s_reg [] [0, 1] [(0, [], .string ⟨⟨s⟩⟩), (1, [], .int .i64 i)] [] H (by kernel_rfl) trivial fun _ wd1 H2 hb => ?_
  clear H
  replace hS := hS.below hb
  clear hb
  obtain ⟨z3, hz, hm⟩ := bindE hm
  refine w_cut (fun a' w' => Fr 27 [(0, [], .string ⟨⟨s⟩⟩), (1, [], .int .i64 z3)] a' ∧ SH M X w [] w') ?_ ?_
  · replace hm := hz
    obtain ⟨y4, hy4, hm⟩ := bindE hm
    refine s_reg [(.int .u8 y4)] [0, 1, 5] [(0, [], .string ⟨⟨s⟩⟩), (1, [], .int .i64 i), (5, [], .int .u8 y4)] [fun wz => RetB Tryd.prog 43 ⟨[.string ⟨⟨s⟩⟩, .int .i64 i]⟩ (.int .u8 y4) wz] H2 (by kernel_rfl) ⟨((r02_At_ok _ _ _ hy4).b), trivial⟩ fun _ wd5 H6 hb => ?_
    clear H2
    replace hS := hS.below hb
    clear hb
    refine s_reg [] [0, 1, 14] [(0, [], .string ⟨⟨s⟩⟩), (1, [], .int .i64 i), (14, [], .bool (cond (y4 == 43) true (y4 == 45)))] [] H6 (by kernel_rfl) trivial fun _ wd7 H8 hb => ?_
    clear H6
    replace hS := hS.below hb
    clear hb
    refine w_if H8 rfl (fun hc => ?_) (fun hc => ?_)
    · replace hm := bT hc hm
      refine w_reg [] [0, 1] [(0, [], .string ⟨⟨s⟩⟩), (1, [], .int .i64 (w64 (i + 1)))] [] H8 (by kernel_rfl) trivial fun _ wd9 H10 hb => ?_
      clear H8
      replace hS := hS.below hb
      clear hb
      obtain rfl := someE hm
      exact ⟨Fr.keep (ks := [0, 1]) H10 (by kernel_rfl), hS⟩
    · replace hm := bF hc hm
      refine w_skip ?_
      obtain rfl := someE hm
      exact ⟨Fr.keep (ks := [0, 1]) H8 (by kernel_rfl), hS⟩
  · rintro _ wd21 ⟨H, hS⟩
    obtain ⟨z11, hz, hm⟩ := bindE hm
    refine w_cut (fun a' w' => Fr 27 [(0, [], .string ⟨⟨s⟩⟩), (1, [], .int .i64 z11)] a' ∧ SH M X w [] w') ?_ ?_
    · replace hm := hz
      obtain ⟨y12, hy12, hm⟩ := bindE hm
      refine s_reg [(.int .u8 y12)] [0, 1, 20] [(0, [], .string ⟨⟨s⟩⟩), (1, [], .int .i64 z3), (20, [], .bool (y12 == 46))] [fun wz => RetB Tryd.prog 43 ⟨[.string ⟨⟨s⟩⟩, .int .i64 z3]⟩ (.int .u8 y12) wz] H (by kernel_rfl) ⟨((r02_At_ok _ _ _ hy12).b), trivial⟩ fun _ wd13 H14 hb => ?_
      clear H
      replace hS := hS.below hb
      clear hb
      refine w_if H14 rfl (fun hc => ?_) (fun hc => ?_)
      · replace hm := bT hc hm
        refine w_reg [] [0, 1] [(0, [], .string ⟨⟨s⟩⟩), (1, [], .int .i64 (w64 (z3 + 1)))] [] H14 (by kernel_rfl) trivial fun _ wd15 H16 hb => ?_
        clear H14
        replace hS := hS.below hb
        clear hb
        obtain rfl := someE hm
        exact ⟨Fr.keep (ks := [0, 1]) H16 (by kernel_rfl), hS⟩
      · replace hm := bF hc hm
        refine w_skip ?_
        obtain rfl := someE hm
        exact ⟨Fr.keep (ks := [0, 1]) H14 (by kernel_rfl), hS⟩
    · rintro _ wd20 ⟨H, hS⟩
      obtain ⟨y17, hy17, hm⟩ := bindE hm
      refine s_reg [(.int .u8 y17), (.bool (r02_Digit y17))] [4] [(4, [], .bool (r02_Digit y17))] [fun wz => RetB Tryd.prog 43 ⟨[.string ⟨⟨s⟩⟩, .int .i64 z11]⟩ (.int .u8 y17) wz, fun wz => RetB Tryd.prog 44 ⟨[.int .u8 y17]⟩ (.bool (r02_Digit y17)) wz] H (by kernel_rfl) ⟨((r02_At_ok _ _ _ hy17).b), ((r02_Digit_ok _).b), trivial⟩ fun _ wd18 H19 hb => ?_
      clear H
      replace hS := hS.below hb
      clear hb
      refine w_ret ?_
      obtain rfl := someE hm
      exact retR1 H19 rfl rfl ⟨_, rfl, rfl, (hS.sel [] rfl)⟩
theorem r02_NumberAt_ok  (s : Str) (i : Int) (r : Bool) (hm : r02_NumberAt s i = some r) : Ret Tryd.prog 32 ⟨[.string ⟨⟨s⟩⟩, .int .i64 i]⟩ (.bool r) := retP_of (Tryd.call32 _) (fun w h => r02_NumberAt_w F0   s i r hm w h)

def r02_digits_L1 (m : Nat) (s : Str) : Nat → Int → Option (Int)
  | 0, _ => none
  | kk + 1, v4 =>
    Option.bind (r02_At s v4) fun y5 =>
    cond (r02_Digit y5) (
    r02_digits_L1 m s kk (w64 (v4 + 1))) (
    some v4)
def r02_digits (m : Nat) (s : Str) (i : Int) : Option (Int) :=
  Option.bind (
  r02_digits_L1 m s m i) fun (z3 : Int) =>
  some z3
theorem r02_digits_w  (M : Av) (m : Nat) (s : Str) (i : Int) (r : Int) (hm : r02_digits m s i = some r) (w : World) (hS : S0 M [] w) : Calls Tryd.prog 45 ⟨[.string ⟨⟨s⟩⟩, .int .i64 i]⟩ w (fun e w' => ∃ v, e = .returned v ∧ v = .int .i64 r ∧ SH M (fpl []) w [] w') := by
  rw [r02_digits] at hm
  have hS0 : SH M (fpl []) w [] w := hS
  generalize hX : fpl [] = X at hS0 ⊢
  clear hS hX
  have hS := hS0
  clear hS0
  refine calls_entryP Tryd.func45 rfl Tryd.ntmps45 rfl fun _ H => ?_
  refine s_reg [] [0, 1] [(0, [], .string ⟨⟨s⟩⟩), (1, [], .int .i64 i)] [] H (by kernel_rfl) trivial fun _ wd1 H2 hb => ?_
  clear H
  replace hS := hS.below hb
  clear hb
  obtain ⟨z3, hz, hm⟩ := bindE hm
  refine w_cut (fun a' w' => Fr 12 [(1, [], .int .i64 z3)] a' ∧ SH M X w [] w') ?_ ?_
  · replace hm := hz
    refine w_block ?_
    refine w_loop (fun kk a' w' => ∃ (v4 : Int), r02_digits_L1 m s kk v4 = some _ ∧ Fr 12 [(0, [], .string ⟨⟨s⟩⟩), (1, [], .int .i64 v4)] a' ∧ SH M X w [] w') ⟨_, i, hm, Fr.keep (ks := [0, 1]) H2 (by kernel_rfl), hS⟩ ?_
    clear hm H2 hS
    rintro kk _ wd10 ⟨v4, hm, H, hS⟩
    cases kk with
    | zero => exact noneE hm
    | succ kk =>
      rw [r02_digits_L1] at hm
      refine w_seq ?_
      obtain ⟨y5, hy5, hm⟩ := bindE hm
      refine s_reg [(.int .u8 y5), (.bool (r02_Digit y5))] [0, 1, 8] [(0, [], .string ⟨⟨s⟩⟩), (1, [], .int .i64 v4), (8, [], .bool (r02_Digit y5))] [fun wz => RetB Tryd.prog 43 ⟨[.string ⟨⟨s⟩⟩, .int .i64 v4]⟩ (.int .u8 y5) wz, fun wz => RetB Tryd.prog 44 ⟨[.int .u8 y5]⟩ (.bool (r02_Digit y5)) wz] H (by kernel_rfl) ⟨((r02_At_ok _ _ _ hy5).b), ((r02_Digit_ok _).b), trivial⟩ fun _ wd6 H7 hb => ?_
      clear H
      replace hS := hS.below hb
      clear hb
      refine w_if H7 rfl (fun hc => ?_) (fun hc => ?_)
      · replace hm := bT hc hm
        refine w_skip ?_
        refine w_block ?_
        refine w_reg [] [0, 1] [(0, [], .string ⟨⟨s⟩⟩), (1, [], .int .i64 (w64 (v4 + 1)))] [] H7 (by kernel_rfl) trivial fun _ wd8 H9 hb => ?_
        clear H7
        replace hS := hS.below hb
        clear hb
        exact ⟨_, Nat.lt_succ_self _, w64 (v4 + 1), hm, Fr.keep (ks := [0, 1]) H9 (by kernel_rfl), hS⟩
      · replace hm := bF hc hm
        refine w_exit rfl ?_
        obtain rfl := someE hm
        exact ⟨Fr.keep (ks := [1]) H7 (by kernel_rfl), hS⟩
  · rintro _ wd13 ⟨H, hS⟩
    refine s_reg [] [4] [(4, [], .int .i64 z3)] [] H (by kernel_rfl) trivial fun _ wd11 H12 hb => ?_
    clear H
    replace hS := hS.below hb
    clear hb
    refine w_ret ?_
    obtain rfl := someE hm
    exact retR1 H12 rfl rfl ⟨_, rfl, rfl, (hS.sel [] rfl)⟩
theorem r02_digits_ok  (m : Nat) (s : Str) (i : Int) (r : Int) (hm : r02_digits m s i = some r) : Ret Tryd.prog 45 ⟨[.string ⟨⟨s⟩⟩, .int .i64 i]⟩ (.int .i64 r) := retP_of (Tryd.call45 _) (fun w h => r02_digits_w F0 m   s i r hm w h)

def r02_NumberEnd (m : Nat) (s : Str) (i : Int) : Option (Int × Bool) :=
  Option.bind (
  Option.bind (r02_At s i) fun y4 =>
  cond (cond (y4 == 43) true (y4 == 45)) (
  some (w64 (i + 1))) (
  some i)) fun (z3 : Int) =>
  Option.bind (r02_digits m s z3) fun y11 =>
  Option.bind (
  Option.bind (r02_At s y11) fun y17 =>
  Option.bind (cond (y17 == 46) (r02_At s (w64 (y11 + 1))) (some default)) fun y18 =>
  cond (cond (y17 == 46) (r02_Digit y18) false) (
  Option.bind (r02_digits m s (w64 (y11 + 1))) fun y23 =>
  some (y23, false)) (
  some (y11, true))) fun (z16 : Int × Bool) =>
  Option.bind (
  Option.bind (r02_At s z16.1) fun y27 =>
  cond (cond (y27 == 101) true (y27 == 69)) (
  Option.bind (
  Option.bind (r02_At s (w64 (z16.1 + 1))) fun y35 =>
  cond (cond (y35 == 43) true (y35 == 45)) (
  some (w64 ((w64 (z16.1 + 1)) + 1))) (
  some (w64 (z16.1 + 1)))) fun (z34 : Int) =>
  Option.bind (r02_At s z34) fun y42 =>
  cond (r02_Digit y42) (
  Option.bind (r02_digits m s z34) fun y47 =>
  some (y47, false)) (
  some (z16.1, z16.2))) (
  some (z16.1, z16.2))) fun (z26 : Int × Bool) =>
  some (z26.1, z26.2)
theorem r02_NumberEnd_w  (M : Av) (m : Nat) (s : Str) (i : Int) (r : Int × Bool) (hm : r02_NumberEnd m s i = some r) (w : World) (hS : S0 M [] w) : Calls Tryd.prog 33 ⟨[.string ⟨⟨s⟩⟩, .int .i64 i]⟩ w (fun e w' => ∃ v, e = .returned v ∧ v = .tuple ⟨[.int .i64 r.1, .bool r.2]⟩ ∧ SH M (fpl []) w [] w') := by
  rw [r02_NumberEnd] at hm
  have hS0 : SH M (fpl []) w [] w := hS
  generalize hX : fpl [] = X at hS0 ⊢
  clear hS hX
  have hS := hS0
  clear hS0
  refine calls_entryP Tryd.func33 rfl Tryd.ntmps33 rfl fun _ H => ?_
  refine s_reg [] [0, 1] [(0, [], .string ⟨⟨s⟩⟩), (1, [], .int .i64 i)] [] H (by kernel_rfl) trivial fun _ wd1 H2 hb => ?_
  clear H
  replace hS := hS.below hb
  clear hb
  obtain ⟨z3, hz, hm⟩ := bindE hm
  refine w_cut (fun a' w' => Fr 71 [(0, [], .string ⟨⟨s⟩⟩), (1, [], .int .i64 z3)] a' ∧ SH M X w [] w') ?_ ?_
  · replace hm := hz
    obtain ⟨y4, hy4, hm⟩ := bindE hm
    refine s_reg [(.int .u8 y4)] [0, 1, 6] [(0, [], .string ⟨⟨s⟩⟩), (1, [], .int .i64 i), (6, [], .int .u8 y4)] [fun wz => RetB Tryd.prog 43 ⟨[.string ⟨⟨s⟩⟩, .int .i64 i]⟩ (.int .u8 y4) wz] H2 (by kernel_rfl) ⟨((r02_At_ok _ _ _ hy4).b), trivial⟩ fun _ wd5 H6 hb => ?_
    clear H2
    replace hS := hS.below hb
    clear hb
    refine s_reg [] [0, 1, 19] [(0, [], .string ⟨⟨s⟩⟩), (1, [], .int .i64 i), (19, [], .bool (cond (y4 == 43) true (y4 == 45)))] [] H6 (by kernel_rfl) trivial fun _ wd7 H8 hb => ?_
    clear H6
    replace hS := hS.below hb
    clear hb
    refine w_if H8 rfl (fun hc => ?_) (fun hc => ?_)
    · replace hm := bT hc hm
      refine w_reg [] [0, 1] [(0, [], .string ⟨⟨s⟩⟩), (1, [], .int .i64 (w64 (i + 1)))] [] H8 (by kernel_rfl) trivial fun _ wd9 H10 hb => ?_
      clear H8
      replace hS := hS.below hb
      clear hb
      obtain rfl := someE hm
      exact ⟨Fr.keep (ks := [0, 1]) H10 (by kernel_rfl), hS⟩
    · replace hm := bF hc hm
      refine w_skip ?_
      obtain rfl := someE hm
      exact ⟨Fr.keep (ks := [0, 1]) H8 (by kernel_rfl), hS⟩
  · rintro _ wd55 ⟨H, hS⟩
    obtain ⟨y11, hy11, hm⟩ := bindE hm
    refine s_reg [(.int .i64 y11)] [0, 1] [(0, [], .string ⟨⟨s⟩⟩), (1, [], .int .i64 y11)] [fun wz => RetB Tryd.prog 45 ⟨[.string ⟨⟨s⟩⟩, .int .i64 z3]⟩ (.int .i64 y11) wz] H (by kernel_rfl) ⟨((r02_digits_ok m _ _ _ hy11).b), trivial⟩ fun _ wd12 H13 hb => ?_
    clear H
    replace hS := hS.below hb
    clear hb
    refine s_reg [] [0, 1, 7] [(0, [], .string ⟨⟨s⟩⟩), (1, [], .int .i64 y11), (7, [], .bool true)] [] H13 (by kernel_rfl) trivial fun _ wd14 H15 hb => ?_
    clear H13
    replace hS := hS.below hb
    clear hb
    obtain ⟨z16, hz, hm⟩ := bindE hm
    refine w_cut (fun a' w' => Fr 71 [(0, [], .string ⟨⟨s⟩⟩), (1, [], .int .i64 z16.1), (7, [], .bool z16.2)] a' ∧ SH M X w [] w') ?_ ?_
    · replace hm := hz
      obtain ⟨y17, hy17, hm⟩ := bindE hm
      obtain ⟨y18, hy18, hm⟩ := bindE hm
      refine s_reg [(.int .u8 y17), (.int .u8 y18), (.bool (r02_Digit y18))] [0, 1, 7, 35] [(0, [], .string ⟨⟨s⟩⟩), (1, [], .int .i64 y11), (7, [], .bool true), (35, [], .bool (cond (y17 == 46) (r02_Digit y18) false))] [fun wz => RetB Tryd.prog 43 ⟨[.string ⟨⟨s⟩⟩, .int .i64 y11]⟩ (.int .u8 y17) wz, fun wz => ((y17 == 46) = true ∧ True → RetB Tryd.prog 43 ⟨[.string ⟨⟨s⟩⟩, .int .i64 (w64 (y11 + 1))]⟩ (.int .u8 y18) wz), fun wz => ((y17 == 46) = true ∧ True → RetB Tryd.prog 44 ⟨[.int .u8 y18]⟩ (.bool (r02_Digit y18)) wz)] H15 (by kernel_rfl) ⟨((r02_At_ok _ _ _ hy17).b), fun hg => (r02_At_ok _ _ _ (bT (hg.1) hy18)).b, fun hg => (r02_Digit_ok _).b, trivial⟩ fun _ wd19 H20 hb => ?_
      clear H15
      replace hS := hS.below hb
      clear hb
      refine w_if H20 rfl (fun hc => ?_) (fun hc => ?_)
      · replace hm := bT hc hm
        refine s_reg [] [0, 1, 7] [(0, [], .string ⟨⟨s⟩⟩), (1, [], .int .i64 y11), (7, [], .bool false)] [] H20 (by kernel_rfl) trivial fun _ wd21 H22 hb => ?_
        clear H20
        replace hS := hS.below hb
        clear hb
        obtain ⟨y23, hy23, hm⟩ := bindE hm
        refine w_reg [(.int .i64 y23)] [0, 1, 7] [(0, [], .string ⟨⟨s⟩⟩), (1, [], .int .i64 y23), (7, [], .bool false)] [fun wz => RetB Tryd.prog 45 ⟨[.string ⟨⟨s⟩⟩, .int .i64 (w64 (y11 + 1))]⟩ (.int .i64 y23) wz] H22 (by kernel_rfl) ⟨((r02_digits_ok m _ _ _ hy23).b), trivial⟩ fun _ wd24 H25 hb => ?_
        clear H22
        replace hS := hS.below hb
        clear hb
        obtain rfl := someE hm
        exact ⟨Fr.keep (ks := [0, 1, 7]) H25 (by kernel_rfl), hS⟩
      · replace hm := bF hc hm
        refine w_skip ?_
        obtain rfl := someE hm
        exact ⟨Fr.keep (ks := [0, 1, 7]) H20 (by kernel_rfl), hS⟩
    · rintro _ wd54 ⟨H, hS⟩
      obtain ⟨z26, hz, hm⟩ := bindE hm
      refine w_cut (fun a' w' => Fr 71 [(1, [], .int .i64 z26.1), (7, [], .bool z26.2)] a' ∧ SH M X w [] w') ?_ ?_
      · replace hm := hz
        obtain ⟨y27, hy27, hm⟩ := bindE hm
        refine s_reg [(.int .u8 y27)] [0, 1, 7, 8] [(0, [], .string ⟨⟨s⟩⟩), (1, [], .int .i64 z16.1), (7, [], .bool z16.2), (8, [], .int .u8 y27)] [fun wz => RetB Tryd.prog 43 ⟨[.string ⟨⟨s⟩⟩, .int .i64 z16.1]⟩ (.int .u8 y27) wz] H (by kernel_rfl) ⟨((r02_At_ok _ _ _ hy27).b), trivial⟩ fun _ wd28 H29 hb => ?_
        clear H
        replace hS := hS.below hb
        clear hb
        refine s_reg [] [0, 1, 7, 48] [(0, [], .string ⟨⟨s⟩⟩), (1, [], .int .i64 z16.1), (7, [], .bool z16.2), (48, [], .bool (cond (y27 == 101) true (y27 == 69)))] [] H29 (by kernel_rfl) trivial fun _ wd30 H31 hb => ?_
        clear H29
        replace hS := hS.below hb
        clear hb
        refine w_if H31 rfl (fun hc => ?_) (fun hc => ?_)
        · replace hm := bT hc hm
          refine s_reg [] [0, 1, 7, 9] [(0, [], .string ⟨⟨s⟩⟩), (1, [], .int .i64 z16.1), (7, [], .bool z16.2), (9, [], .int .i64 (w64 (z16.1 + 1)))] [] H31 (by kernel_rfl) trivial fun _ wd32 H33 hb => ?_
          clear H31
          replace hS := hS.below hb
          clear hb
          obtain ⟨z34, hz, hm⟩ := bindE hm
          refine w_cut (fun a' w' => Fr 71 [(0, [], .string ⟨⟨s⟩⟩), (1, [], .int .i64 z16.1), (7, [], .bool z16.2), (9, [], .int .i64 z34)] a' ∧ SH M X w [] w') ?_ ?_
          · replace hm := hz
            obtain ⟨y35, hy35, hm⟩ := bindE hm
            refine s_reg [(.int .u8 y35)] [0, 1, 7, 9, 10] [(0, [], .string ⟨⟨s⟩⟩), (1, [], .int .i64 z16.1), (7, [], .bool z16.2), (9, [], .int .i64 (w64 (z16.1 + 1))), (10, [], .int .u8 y35)] [fun wz => RetB Tryd.prog 43 ⟨[.string ⟨⟨s⟩⟩, .int .i64 (w64 (z16.1 + 1))]⟩ (.int .u8 y35) wz] H33 (by kernel_rfl) ⟨((r02_At_ok _ _ _ hy35).b), trivial⟩ fun _ wd36 H37 hb => ?_
            clear H33
            replace hS := hS.below hb
            clear hb
            refine s_reg [] [0, 1, 7, 9, 59] [(0, [], .string ⟨⟨s⟩⟩), (1, [], .int .i64 z16.1), (7, [], .bool z16.2), (9, [], .int .i64 (w64 (z16.1 + 1))), (59, [], .bool (cond (y35 == 43) true (y35 == 45)))] [] H37 (by kernel_rfl) trivial fun _ wd38 H39 hb => ?_
            clear H37
            replace hS := hS.below hb
            clear hb
            refine w_if H39 rfl (fun hc => ?_) (fun hc => ?_)
            · replace hm := bT hc hm
              refine w_reg [] [0, 1, 7, 9] [(0, [], .string ⟨⟨s⟩⟩), (1, [], .int .i64 z16.1), (7, [], .bool z16.2), (9, [], .int .i64 (w64 ((w64 (z16.1 + 1)) + 1)))] [] H39 (by kernel_rfl) trivial fun _ wd40 H41 hb => ?_
              clear H39
              replace hS := hS.below hb
              clear hb
              obtain rfl := someE hm
              exact ⟨Fr.keep (ks := [0, 1, 7, 9]) H41 (by kernel_rfl), hS⟩
            · replace hm := bF hc hm
              refine w_skip ?_
              obtain rfl := someE hm
              exact ⟨Fr.keep (ks := [0, 1, 7, 9]) H39 (by kernel_rfl), hS⟩
          · rintro _ wd50 ⟨H, hS⟩
            obtain ⟨y42, hy42, hm⟩ := bindE hm
            refine s_reg [(.int .u8 y42), (.bool (r02_Digit y42))] [0, 1, 7, 9, 65] [(0, [], .string ⟨⟨s⟩⟩), (1, [], .int .i64 z16.1), (7, [], .bool z16.2), (9, [], .int .i64 z34), (65, [], .bool (r02_Digit y42))] [fun wz => RetB Tryd.prog 43 ⟨[.string ⟨⟨s⟩⟩, .int .i64 z34]⟩ (.int .u8 y42) wz, fun wz => RetB Tryd.prog 44 ⟨[.int .u8 y42]⟩ (.bool (r02_Digit y42)) wz] H (by kernel_rfl) ⟨((r02_At_ok _ _ _ hy42).b), ((r02_Digit_ok _).b), trivial⟩ fun _ wd43 H44 hb => ?_
            clear H
            replace hS := hS.below hb
            clear hb
            refine w_if H44 rfl (fun hc => ?_) (fun hc => ?_)
            · replace hm := bT hc hm
              refine s_reg [] [0, 7, 9] [(0, [], .string ⟨⟨s⟩⟩), (7, [], .bool false), (9, [], .int .i64 z34)] [] H44 (by kernel_rfl) trivial fun _ wd45 H46 hb => ?_
              clear H44
              replace hS := hS.below hb
              clear hb
              obtain ⟨y47, hy47, hm⟩ := bindE hm
              refine w_reg [(.int .i64 y47)] [1, 7] [(1, [], .int .i64 y47), (7, [], .bool false)] [fun wz => RetB Tryd.prog 45 ⟨[.string ⟨⟨s⟩⟩, .int .i64 z34]⟩ (.int .i64 y47) wz] H46 (by kernel_rfl) ⟨((r02_digits_ok m _ _ _ hy47).b), trivial⟩ fun _ wd48 H49 hb => ?_
              clear H46
              replace hS := hS.below hb
              clear hb
              obtain rfl := someE hm
              exact ⟨Fr.keep (ks := [1, 7]) H49 (by kernel_rfl), hS⟩
            · replace hm := bF hc hm
              refine w_skip ?_
              obtain rfl := someE hm
              exact ⟨Fr.keep (ks := [1, 7]) H44 (by kernel_rfl), hS⟩
        · replace hm := bF hc hm
          refine w_skip ?_
          obtain rfl := someE hm
          exact ⟨Fr.keep (ks := [1, 7]) H31 (by kernel_rfl), hS⟩
      · rintro _ wd53 ⟨H, hS⟩
        refine s_reg [] [4, 5] [(4, [], .int .i64 z26.1), (5, [], .bool z26.2)] [] H (by kernel_rfl) trivial fun _ wd51 H52 hb => ?_
        clear H
        replace hS := hS.below hb
        clear hb
        refine w_ret ?_
        obtain rfl := someE hm
        exact retR2 H52 rfl rfl rfl ⟨_, rfl, rfl, (hS.sel [] rfl)⟩
theorem r02_NumberEnd_ok  (m : Nat) (s : Str) (i : Int) (r : Int × Bool) (hm : r02_NumberEnd m s i = some r) : Ret Tryd.prog 33 ⟨[.string ⟨⟨s⟩⟩, .int .i64 i]⟩ (.tuple ⟨[.int .i64 r.1, .bool r.2]⟩) := retP_of (Tryd.call33 _) (fun w h => r02_NumberEnd_w F0 m   s i r hm w h)

def r02_Thousandths_L1 (m : Nat) (s : Str) : Nat → Str → Int → Option (Str × Int)
  | 0, _, _ => none
  | kk + 1, v15, v16 =>
    Option.bind (r02_At s v16) fun y17 =>
    cond (r02_Digit y17) (
    chk (0 ≤ v16 ∧ v16 ≤ (w64 (v16 + 1)) ∧ (w64 (v16 + 1)) ≤ ln s) <|
    chk (ln v15 + ln (sub s v16 (w64 (v16 + 1))) ≤ 9223372036854775807) <|
    r02_Thousandths_L1 m s kk (v15 ++ (sub s v16 (w64 (v16 + 1)))) (w64 (v16 + 1))) (
    some (v15, v16))
def r02_Thousandths_L2 (m : Nat) (s : Str) : Nat → Str → Int → Int → Option (Str × Int × Int)
  | 0, _, _, _ => none
  | kk + 1, v33, v34, v35 =>
    Option.bind (r02_At s v35) fun y36 =>
    cond (r02_Digit y36) (
    chk (0 ≤ v35 ∧ v35 ≤ (w64 (v35 + 1)) ∧ (w64 (v35 + 1)) ≤ ln s) <|
    chk (ln v33 + ln (sub s v35 (w64 (v35 + 1))) ≤ 9223372036854775807) <|
    r02_Thousandths_L2 m s kk (v33 ++ (sub s v35 (w64 (v35 + 1)))) (w64 (v34 - 1)) (w64 (v35 + 1))) (
    some (v33, v34, v35))
def r02_Thousandths_L3 (m : Nat) (s : Str) : Nat → Int → Int → Option (Int)
  | 0, _, _ => none
  | kk + 1, v65, v66 =>
    cond (decide (v65 < (ln s))) (
    chk (0 ≤ v65 ∧ v65 < ln s) <|
    lt (w64 ((w64 (10 * v66)) + (w64 (wu8 ((bat s v65) - 48))))) fun x70 =>
    r02_Thousandths_L3 m s kk (w64 (v65 + 1)) (if x70 < 10000 then x70 else 10000)) (
    some v66)
def r02_Thousandths_L4 (m : Nat) (z27 : Str × Int × Int) (z48 : Int) : Nat → Int → Int → Option (Int)
  | 0, _, _ => none
  | kk + 1, v91, v92 =>
    lt (cond (decide (v92 < (w64 ((ln z27.1) + z48)))) (decide (v92 < (ln z27.1))) false) fun x93 =>
    cond x93 (
    chk (0 ≤ v92 ∧ v92 < ln z27.1) <|
    lt (w64 ((w64 (10 * v91)) + (w64 (wu8 ((bat z27.1 v92) - 48))))) fun x97 =>
    lt (if x97 < 1000000000000 then x97 else 1000000000000) fun x98 =>
    r02_Thousandths_L4 m z27 z48 kk x98 (w64 (v92 + 1))) (
    some v91)
def r02_Thousandths_L5 (m : Nat)  : Nat → Int → Int → Option (Int)
  | 0, _, _ => none
  | kk + 1, v105, v106 =>
    lt (cond (decide (0 < v105)) (decide (0 < v106)) false) fun x107 =>
    lt (cond x107 (decide (v106 < 1000000000000)) false) fun x108 =>
    cond x108 (
    lt (if w64 (10 * v106) < 1000000000000 then w64 (10 * v106) else 1000000000000) fun x111 =>
    r02_Thousandths_L5 m  kk (w64 (v105 - 1)) x111) (
    some v106)
def r02_Thousandths (m : Nat) (s : Str) : Option (Int) :=
  chk (0 ≤ (0 : Int) ∧ (0 : Int) < ln s) <|
  Option.bind (
  lt (cond ((bat s 0) == 43) true ((bat s 0) == 45)) fun x9 =>
  cond x9 (
  some 1) (
  some 0)) fun (z8 : Int) =>
  Option.bind (
  r02_Thousandths_L1 m s m [] z8) fun (z14 : Str × Int) =>
  Option.bind (
  Option.bind (r02_At s z14.2) fun y28 =>
  cond (y28 == 46) (
  r02_Thousandths_L2 m s m z14.1 3 (w64 (z14.2 + 1))) (
  some (z14.1, 3, z14.2))) fun (z27 : Str × Int × Int) =>
  Option.bind (
  cond (decide (z27.2.2 < (ln s))) (
  chk (0 ≤ (w64 (z27.2.2 + 1)) ∧ (w64 (z27.2.2 + 1)) < ln s) <|
  Option.bind (
  lt (cond ((bat s (w64 (z27.2.2 + 1))) == 43) true ((bat s (w64 (z27.2.2 + 1))) == 45)) fun x57 =>
  cond x57 (
  some (w64 ((w64 (z27.2.2 + 1)) + 1))) (
  some (w64 (z27.2.2 + 1)))) fun (z56 : Int) =>
  Option.bind (
  r02_Thousandths_L3 m s m z56 0) fun (z64 : Int) =>
  Option.bind (
  cond ((bat s (w64 (z27.2.2 + 1))) == 45) (
  some (w64 (0 - z64))) (
  some z64)) fun (z76 : Int) =>
  some (w64 (z27.2.1 + z76))) (
  some z27.2.1)) fun (z48 : Int) =>
  Option.bind (
  r02_Thousandths_L4 m z27 z48 m 0 0) fun (z88 : Int) =>
  Option.bind (
  r02_Thousandths_L5 m  m z48 z88) fun (z104 : Int) =>
  cond ((bat s 0) == 45) (
  some (w64 (0 - z104))) (
  some z104)
theorem r02_Thousandths_w  (M : Av) (m : Nat) (s : Str) (r : Int) (hm : r02_Thousandths m s = some r) (w : World) (hS : S0 M [] w) : Calls Tryd.prog 34 ⟨[.string ⟨⟨s⟩⟩]⟩ w (fun e w' => ∃ v, e = .returned v ∧ v = .int .i64 r ∧ SH M (fpl []) w [] w') := by
  rw [r02_Thousandths] at hm
  have hS0 : SH M (fpl []) w [] w := hS
  generalize hX : fpl [] = X at hS0 ⊢
  clear hS hX
  have hS := hS0
  clear hS0
  refine calls_entryP Tryd.func34 rfl Tryd.ntmps34 rfl fun _ H => ?_
  refine s_reg [] [0] [(0, [], .string ⟨⟨s⟩⟩)] [] H (by kernel_rfl) trivial fun _ wd1 H2 hb => ?_
  clear H
  replace hS := hS.below hb
  clear hb
  refine s_reg [] [0, 3, 4, 5] [(0, [], .string ⟨⟨s⟩⟩), (3, [], .string ⟨⟨[]⟩⟩), (4, [], .int .i64 3), (5, [], .int .i64 0)] [] H2 (by kernel_rfl) trivial fun _ wd3 H4 hb => ?_
  clear H2
  replace hS := hS.below hb
  clear hb
  obtain ⟨ho5, hm⟩ := chkE hm
  refine s_reg [] [0, 3, 4, 5, 6] [(0, [], .string ⟨⟨s⟩⟩), (3, [], .string ⟨⟨[]⟩⟩), (4, [], .int .i64 3), (5, [], .int .i64 0), (6, [], .bool ((bat s 0) == 45))] [fun _ => 0 ≤ (0 : Int) ∧ (0 : Int) < ln s] H4 (by kernel_rfl) ⟨ho5, trivial⟩ fun _ wd6 H7 hb => ?_
  clear H4
  replace hS := hS.below hb
  clear hb
  obtain ⟨z8, hz, hm⟩ := bindE hm
  refine w_cut (fun a' w' => Fr 138 [(0, [], .string ⟨⟨s⟩⟩), (3, [], .string ⟨⟨[]⟩⟩), (4, [], .int .i64 3), (6, [], .bool ((bat s 0) == 45)), (5, [], .int .i64 z8)] a' ∧ SH M X w [] w') ?_ ?_
  · replace hm := hz
    obtain ⟨x9, hx9, hm⟩ := letE hm
    refine s_reg [] [0, 3, 4, 5, 6, 19] [(0, [], .string ⟨⟨s⟩⟩), (3, [], .string ⟨⟨[]⟩⟩), (4, [], .int .i64 3), (5, [], .int .i64 0), (6, [], .bool ((bat s 0) == 45)), (19, [], .bool x9)] [fun _ => 0 ≤ (0 : Int) ∧ (0 : Int) < ln s] H7 (by subst hx9; kernel_rfl) ⟨ho5, trivial⟩ fun _ wd10 H11 hb => ?_
    clear H7
    replace hS := hS.below hb
    clear hb
    refine w_if H11 rfl (fun hc => ?_) (fun hc => ?_)
    · replace hm := bT hc hm
      refine w_reg [] [0, 3, 4, 5, 6] [(0, [], .string ⟨⟨s⟩⟩), (3, [], .string ⟨⟨[]⟩⟩), (4, [], .int .i64 3), (5, [], .int .i64 1), (6, [], .bool ((bat s 0) == 45))] [] H11 (by kernel_rfl) trivial fun _ wd12 H13 hb => ?_
      clear H11
      replace hS := hS.below hb
      clear hb
      obtain rfl := someE hm
      exact ⟨Fr.keep (ks := [0, 3, 4, 6, 5]) H13 (by kernel_rfl), hS⟩
    · replace hm := bF hc hm
      refine w_skip ?_
      obtain rfl := someE hm
      exact ⟨Fr.keep (ks := [0, 3, 4, 6, 5]) H11 (by kernel_rfl), hS⟩
  · rintro _ wd128 ⟨H, hS⟩
    obtain ⟨z14, hz, hm⟩ := bindE hm
    refine w_cut (fun a' w' => Fr 138 [(0, [], .string ⟨⟨s⟩⟩), (4, [], .int .i64 3), (6, [], .bool ((bat s 0) == 45)), (3, [], .string ⟨⟨z14.1⟩⟩), (5, [], .int .i64 z14.2)] a' ∧ SH M X w [] w') ?_ ?_
    · replace hm := hz
      refine w_block ?_
      refine w_loop (fun kk a' w' => ∃ (v15 : Str) (v16 : Int), r02_Thousandths_L1 m s kk v15 v16 = some _ ∧ Fr 138 [(0, [], .string ⟨⟨s⟩⟩), (4, [], .int .i64 3), (6, [], .bool ((bat s 0) == 45)), (3, [], .string ⟨⟨v15⟩⟩), (5, [], .int .i64 v16)] a' ∧ SH M X w [] w') ⟨_, [], z8, hm, Fr.keep (ks := [0, 4, 6, 3, 5]) H (by kernel_rfl), hS⟩ ?_
      clear hm H hS
      rintro kk _ wd26 ⟨v15, v16, hm, H, hS⟩
      cases kk with
      | zero => exact noneE hm
      | succ kk =>
        rw [r02_Thousandths_L1] at hm
        refine w_seq ?_
        obtain ⟨y17, hy17, hm⟩ := bindE hm
        refine s_reg [(.int .u8 y17), (.bool (r02_Digit y17))] [0, 3, 4, 5, 6, 25] [(0, [], .string ⟨⟨s⟩⟩), (3, [], .string ⟨⟨v15⟩⟩), (4, [], .int .i64 3), (5, [], .int .i64 v16), (6, [], .bool ((bat s 0) == 45)), (25, [], .bool (r02_Digit y17))] [fun wz => RetB Tryd.prog 43 ⟨[.string ⟨⟨s⟩⟩, .int .i64 v16]⟩ (.int .u8 y17) wz, fun wz => RetB Tryd.prog 44 ⟨[.int .u8 y17]⟩ (.bool (r02_Digit y17)) wz] H (by kernel_rfl) ⟨((r02_At_ok _ _ _ hy17).b), ((r02_Digit_ok _).b), trivial⟩ fun _ wd18 H19 hb => ?_
        clear H
        replace hS := hS.below hb
        clear hb
        refine w_if H19 rfl (fun hc => ?_) (fun hc => ?_)
        · replace hm := bT hc hm
          refine w_skip ?_
          refine w_seq ?_
          refine w_block ?_
          obtain ⟨ho20, hm⟩ := chkE hm
          obtain ⟨ho21, hm⟩ := chkE hm
          refine w_reg [] [0, 3, 4, 5, 6] [(0, [], .string ⟨⟨s⟩⟩), (3, [], .string ⟨⟨v15 ++ (sub s v16 (w64 (v16 + 1)))⟩⟩), (4, [], .int .i64 3), (5, [], .int .i64 v16), (6, [], .bool ((bat s 0) == 45))] [fun _ => 0 ≤ v16 ∧ v16 ≤ (w64 (v16 + 1)) ∧ (w64 (v16 + 1)) ≤ ln s, fun _ => ln v15 + ln (sub s v16 (w64 (v16 + 1))) ≤ 9223372036854775807] H19 (by kernel_rfl) ⟨ho20, ho21, trivial⟩ fun _ wd22 H23 hb => ?_
          clear H19
          replace hS := hS.below hb
          clear hb
          refine w_reg [] [0, 3, 4, 5, 6] [(0, [], .string ⟨⟨s⟩⟩), (3, [], .string ⟨⟨v15 ++ (sub s v16 (w64 (v16 + 1)))⟩⟩), (4, [], .int .i64 3), (5, [], .int .i64 (w64 (v16 + 1))), (6, [], .bool ((bat s 0) == 45))] [] H23 (by kernel_rfl) trivial fun _ wd24 H25 hb => ?_
          clear H23
          replace hS := hS.below hb
          clear hb
          exact ⟨_, Nat.lt_succ_self _, v15 ++ (sub s v16 (w64 (v16 + 1))), w64 (v16 + 1), hm, Fr.keep (ks := [0, 4, 6, 3, 5]) H25 (by kernel_rfl), hS⟩
        · replace hm := bF hc hm
          refine w_exit rfl ?_
          obtain rfl := someE hm
          exact ⟨Fr.keep (ks := [0, 4, 6, 3, 5]) H19 (by kernel_rfl), hS⟩
    · rintro _ wd127 ⟨H, hS⟩
      obtain ⟨z27, hz, hm⟩ := bindE hm
      refine w_cut (fun a' w' => Fr 138 [(0, [], .string ⟨⟨s⟩⟩), (6, [], .bool ((bat s 0) == 45)), (3, [], .string ⟨⟨z27.1⟩⟩), (4, [], .int .i64 z27.2.1), (5, [], .int .i64 z27.2.2)] a' ∧ SH M X w [] w') ?_ ?_
      · replace hm := hz
        obtain ⟨y28, hy28, hm⟩ := bindE hm
        refine s_reg [(.int .u8 y28)] [0, 3, 4, 5, 6, 38] [(0, [], .string ⟨⟨s⟩⟩), (3, [], .string ⟨⟨z14.1⟩⟩), (4, [], .int .i64 3), (5, [], .int .i64 z14.2), (6, [], .bool ((bat s 0) == 45)), (38, [], .bool (y28 == 46))] [fun wz => RetB Tryd.prog 43 ⟨[.string ⟨⟨s⟩⟩, .int .i64 z14.2]⟩ (.int .u8 y28) wz] H (by kernel_rfl) ⟨((r02_At_ok _ _ _ hy28).b), trivial⟩ fun _ wd29 H30 hb => ?_
        clear H
        replace hS := hS.below hb
        clear hb
        refine w_if H30 rfl (fun hc => ?_) (fun hc => ?_)
        · replace hm := bT hc hm
          refine s_reg [] [0, 3, 4, 5, 6] [(0, [], .string ⟨⟨s⟩⟩), (3, [], .string ⟨⟨z14.1⟩⟩), (4, [], .int .i64 3), (5, [], .int .i64 (w64 (z14.2 + 1))), (6, [], .bool ((bat s 0) == 45))] [] H30 (by kernel_rfl) trivial fun _ wd31 H32 hb => ?_
          clear H30
          replace hS := hS.below hb
          clear hb
          refine w_block ?_
          refine w_loop (fun kk a' w' => ∃ (v33 : Str) (v34 : Int) (v35 : Int), r02_Thousandths_L2 m s kk v33 v34 v35 = some _ ∧ Fr 138 [(0, [], .string ⟨⟨s⟩⟩), (6, [], .bool ((bat s 0) == 45)), (3, [], .string ⟨⟨v33⟩⟩), (4, [], .int .i64 v34), (5, [], .int .i64 v35)] a' ∧ SH M X w [] w') ⟨_, z14.1, 3, w64 (z14.2 + 1), hm, Fr.keep (ks := [0, 6, 3, 4, 5]) H32 (by kernel_rfl), hS⟩ ?_
          clear hm H32 hS
          rintro kk _ wd47 ⟨v33, v34, v35, hm, H, hS⟩
          cases kk with
          | zero => exact noneE hm
          | succ kk =>
            rw [r02_Thousandths_L2] at hm
            refine w_seq ?_
            obtain ⟨y36, hy36, hm⟩ := bindE hm
            refine s_reg [(.int .u8 y36), (.bool (r02_Digit y36))] [0, 3, 4, 5, 6, 44] [(0, [], .string ⟨⟨s⟩⟩), (3, [], .string ⟨⟨v33⟩⟩), (4, [], .int .i64 v34), (5, [], .int .i64 v35), (6, [], .bool ((bat s 0) == 45)), (44, [], .bool (r02_Digit y36))] [fun wz => RetB Tryd.prog 43 ⟨[.string ⟨⟨s⟩⟩, .int .i64 v35]⟩ (.int .u8 y36) wz, fun wz => RetB Tryd.prog 44 ⟨[.int .u8 y36]⟩ (.bool (r02_Digit y36)) wz] H (by kernel_rfl) ⟨((r02_At_ok _ _ _ hy36).b), ((r02_Digit_ok _).b), trivial⟩ fun _ wd37 H38 hb => ?_
            clear H
            replace hS := hS.below hb
            clear hb
            refine w_if H38 rfl (fun hc => ?_) (fun hc => ?_)
            · replace hm := bT hc hm
              refine w_skip ?_
              refine w_seq ?_
              refine w_block ?_
              obtain ⟨ho39, hm⟩ := chkE hm
              obtain ⟨ho40, hm⟩ := chkE hm
              refine s_reg [] [0, 3, 4, 5, 6] [(0, [], .string ⟨⟨s⟩⟩), (3, [], .string ⟨⟨v33 ++ (sub s v35 (w64 (v35 + 1)))⟩⟩), (4, [], .int .i64 v34), (5, [], .int .i64 v35), (6, [], .bool ((bat s 0) == 45))] [fun _ => 0 ≤ v35 ∧ v35 ≤ (w64 (v35 + 1)) ∧ (w64 (v35 + 1)) ≤ ln s, fun _ => ln v33 + ln (sub s v35 (w64 (v35 + 1))) ≤ 9223372036854775807] H38 (by kernel_rfl) ⟨ho39, ho40, trivial⟩ fun _ wd41 H42 hb => ?_
              clear H38
              replace hS := hS.below hb
              clear hb
              refine w_reg [] [0, 3, 4, 5, 6] [(0, [], .string ⟨⟨s⟩⟩), (3, [], .string ⟨⟨v33 ++ (sub s v35 (w64 (v35 + 1)))⟩⟩), (4, [], .int .i64 (w64 (v34 - 1))), (5, [], .int .i64 v35), (6, [], .bool ((bat s 0) == 45))] [] H42 (by kernel_rfl) trivial fun _ wd43 H44 hb => ?_
              clear H42
              replace hS := hS.below hb
              clear hb
              refine w_reg [] [0, 3, 4, 5, 6] [(0, [], .string ⟨⟨s⟩⟩), (3, [], .string ⟨⟨v33 ++ (sub s v35 (w64 (v35 + 1)))⟩⟩), (4, [], .int .i64 (w64 (v34 - 1))), (5, [], .int .i64 (w64 (v35 + 1))), (6, [], .bool ((bat s 0) == 45))] [] H44 (by kernel_rfl) trivial fun _ wd45 H46 hb => ?_
              clear H44
              replace hS := hS.below hb
              clear hb
              exact ⟨_, Nat.lt_succ_self _, v33 ++ (sub s v35 (w64 (v35 + 1))), w64 (v34 - 1), w64 (v35 + 1), hm, Fr.keep (ks := [0, 6, 3, 4, 5]) H46 (by kernel_rfl), hS⟩
            · replace hm := bF hc hm
              refine w_exit rfl ?_
              obtain rfl := someE hm
              exact ⟨Fr.keep (ks := [0, 6, 3, 4, 5]) H38 (by kernel_rfl), hS⟩
        · replace hm := bF hc hm
          refine w_skip ?_
          obtain rfl := someE hm
          exact ⟨Fr.keep (ks := [0, 6, 3, 4, 5]) H30 (by kernel_rfl), hS⟩
      · rintro _ wd126 ⟨H, hS⟩
        obtain ⟨z48, hz, hm⟩ := bindE hm
        refine w_cut (fun a' w' => Fr 138 [(3, [], .string ⟨⟨z27.1⟩⟩), (6, [], .bool ((bat s 0) == 45)), (4, [], .int .i64 z48)] a' ∧ SH M X w [] w') ?_ ?_
        · replace hm := hz
          refine s_reg [] [0, 3, 4, 5, 6, 59] [(0, [], .string ⟨⟨s⟩⟩), (3, [], .string ⟨⟨z27.1⟩⟩), (4, [], .int .i64 z27.2.1), (5, [], .int .i64 z27.2.2), (6, [], .bool ((bat s 0) == 45)), (59, [], .bool (decide (z27.2.2 < (ln s))))] [] H (by kernel_rfl) trivial fun _ wd49 H50 hb => ?_
          clear H
          replace hS := hS.below hb
          clear hb
          refine w_if H50 rfl (fun hc => ?_) (fun hc => ?_)
          · replace hm := bT hc hm
            refine s_reg [] [0, 3, 4, 5, 6] [(0, [], .string ⟨⟨s⟩⟩), (3, [], .string ⟨⟨z27.1⟩⟩), (4, [], .int .i64 z27.2.1), (5, [], .int .i64 (w64 (z27.2.2 + 1))), (6, [], .bool ((bat s 0) == 45))] [] H50 (by kernel_rfl) trivial fun _ wd51 H52 hb => ?_
            clear H50
            replace hS := hS.below hb
            clear hb
            obtain ⟨ho53, hm⟩ := chkE hm
            refine s_reg [] [0, 3, 4, 5, 6, 7] [(0, [], .string ⟨⟨s⟩⟩), (3, [], .string ⟨⟨z27.1⟩⟩), (4, [], .int .i64 z27.2.1), (5, [], .int .i64 (w64 (z27.2.2 + 1))), (6, [], .bool ((bat s 0) == 45)), (7, [], .bool ((bat s (w64 (z27.2.2 + 1))) == 45))] [fun _ => 0 ≤ (w64 (z27.2.2 + 1)) ∧ (w64 (z27.2.2 + 1)) < ln s] H52 (by kernel_rfl) ⟨ho53, trivial⟩ fun _ wd54 H55 hb => ?_
            clear H52
            replace hS := hS.below hb
            clear hb
            obtain ⟨z56, hz, hm⟩ := bindE hm
            refine w_cut (fun a' w' => Fr 138 [(0, [], .string ⟨⟨s⟩⟩), (3, [], .string ⟨⟨z27.1⟩⟩), (4, [], .int .i64 z27.2.1), (6, [], .bool ((bat s 0) == 45)), (7, [], .bool ((bat s (w64 (z27.2.2 + 1))) == 45)), (5, [], .int .i64 z56)] a' ∧ SH M X w [] w') ?_ ?_
            · replace hm := hz
              obtain ⟨x57, hx57, hm⟩ := letE hm
              refine s_reg [] [0, 3, 4, 5, 6, 7, 72] [(0, [], .string ⟨⟨s⟩⟩), (3, [], .string ⟨⟨z27.1⟩⟩), (4, [], .int .i64 z27.2.1), (5, [], .int .i64 (w64 (z27.2.2 + 1))), (6, [], .bool ((bat s 0) == 45)), (7, [], .bool ((bat s (w64 (z27.2.2 + 1))) == 45)), (72, [], .bool x57)] [fun _ => 0 ≤ (w64 (z27.2.2 + 1)) ∧ (w64 (z27.2.2 + 1)) < ln s] H55 (by subst hx57; kernel_rfl) ⟨ho53, trivial⟩ fun _ wd58 H59 hb => ?_
              clear H55
              replace hS := hS.below hb
              clear hb
              refine w_if H59 rfl (fun hc => ?_) (fun hc => ?_)
              · replace hm := bT hc hm
                refine w_reg [] [0, 3, 4, 5, 6, 7] [(0, [], .string ⟨⟨s⟩⟩), (3, [], .string ⟨⟨z27.1⟩⟩), (4, [], .int .i64 z27.2.1), (5, [], .int .i64 (w64 ((w64 (z27.2.2 + 1)) + 1))), (6, [], .bool ((bat s 0) == 45)), (7, [], .bool ((bat s (w64 (z27.2.2 + 1))) == 45))] [] H59 (by kernel_rfl) trivial fun _ wd60 H61 hb => ?_
                clear H59
                replace hS := hS.below hb
                clear hb
                obtain rfl := someE hm
                exact ⟨Fr.keep (ks := [0, 3, 4, 6, 7, 5]) H61 (by kernel_rfl), hS⟩
              · replace hm := bF hc hm
                refine w_skip ?_
                obtain rfl := someE hm
                exact ⟨Fr.keep (ks := [0, 3, 4, 6, 7, 5]) H59 (by kernel_rfl), hS⟩
            · rintro _ wd85 ⟨H, hS⟩
              refine s_reg [] [0, 3, 4, 5, 6, 7, 8] [(0, [], .string ⟨⟨s⟩⟩), (3, [], .string ⟨⟨z27.1⟩⟩), (4, [], .int .i64 z27.2.1), (5, [], .int .i64 z56), (6, [], .bool ((bat s 0) == 45)), (7, [], .bool ((bat s (w64 (z27.2.2 + 1))) == 45)), (8, [], .int .i64 0)] [] H (by kernel_rfl) trivial fun _ wd62 H63 hb => ?_
              clear H
              replace hS := hS.below hb
              clear hb
              obtain ⟨z64, hz, hm⟩ := bindE hm
              refine w_cut (fun a' w' => Fr 138 [(3, [], .string ⟨⟨z27.1⟩⟩), (4, [], .int .i64 z27.2.1), (6, [], .bool ((bat s 0) == 45)), (7, [], .bool ((bat s (w64 (z27.2.2 + 1))) == 45)), (8, [], .int .i64 z64)] a' ∧ SH M X w [] w') ?_ ?_
              · replace hm := hz
                refine w_block ?_
                refine w_loop (fun kk a' w' => ∃ (v65 : Int) (v66 : Int), r02_Thousandths_L3 m s kk v65 v66 = some _ ∧ Fr 138 [(0, [], .string ⟨⟨s⟩⟩), (3, [], .string ⟨⟨z27.1⟩⟩), (4, [], .int .i64 z27.2.1), (6, [], .bool ((bat s 0) == 45)), (7, [], .bool ((bat s (w64 (z27.2.2 + 1))) == 45)), (5, [], .int .i64 v65), (8, [], .int .i64 v66)] a' ∧ SH M X w [] w') ⟨_, z56, 0, hm, Fr.keep (ks := [0, 3, 4, 6, 7, 5, 8]) H63 (by kernel_rfl), hS⟩ ?_
                clear hm H63 hS
                rintro kk _ wd75 ⟨v65, v66, hm, H, hS⟩
                cases kk with
                | zero => exact noneE hm
                | succ kk =>
                  rw [r02_Thousandths_L3] at hm
                  refine w_seq ?_
                  refine s_reg [] [0, 3, 4, 5, 6, 7, 8, 78] [(0, [], .string ⟨⟨s⟩⟩), (3, [], .string ⟨⟨z27.1⟩⟩), (4, [], .int .i64 z27.2.1), (5, [], .int .i64 v65), (6, [], .bool ((bat s 0) == 45)), (7, [], .bool ((bat s (w64 (z27.2.2 + 1))) == 45)), (8, [], .int .i64 v66), (78, [], .bool (decide (v65 < (ln s))))] [] H (by kernel_rfl) trivial fun _ wd67 H68 hb => ?_
                  clear H
                  replace hS := hS.below hb
                  clear hb
                  refine w_if H68 rfl (fun hc => ?_) (fun hc => ?_)
                  · replace hm := bT hc hm
                    refine w_skip ?_
                    refine w_seq ?_
                    refine w_block ?_
                    obtain ⟨ho69, hm⟩ := chkE hm
                    obtain ⟨x70, hx70, hm⟩ := letE hm
                    refine w_reg [] [0, 3, 4, 5, 6, 7, 8] [(0, [], .string ⟨⟨s⟩⟩), (3, [], .string ⟨⟨z27.1⟩⟩), (4, [], .int .i64 z27.2.1), (5, [], .int .i64 v65), (6, [], .bool ((bat s 0) == 45)), (7, [], .bool ((bat s (w64 (z27.2.2 + 1))) == 45)), (8, [], .int .i64 (if x70 < 10000 then x70 else 10000))] [fun _ => 0 ≤ v65 ∧ v65 < ln s] H68 (by subst hx70; kernel_rfl) ⟨ho69, trivial⟩ fun _ wd71 H72 hb => ?_
                    clear H68
                    replace hS := hS.below hb
                    clear hb
                    refine w_reg [] [0, 3, 4, 5, 6, 7, 8] [(0, [], .string ⟨⟨s⟩⟩), (3, [], .string ⟨⟨z27.1⟩⟩), (4, [], .int .i64 z27.2.1), (5, [], .int .i64 (w64 (v65 + 1))), (6, [], .bool ((bat s 0) == 45)), (7, [], .bool ((bat s (w64 (z27.2.2 + 1))) == 45)), (8, [], .int .i64 (if x70 < 10000 then x70 else 10000))] [] H72 (by kernel_rfl) trivial fun _ wd73 H74 hb => ?_
                    clear H72
                    replace hS := hS.below hb
                    clear hb
                    exact ⟨_, Nat.lt_succ_self _, w64 (v65 + 1), if x70 < 10000 then x70 else 10000, hm, Fr.keep (ks := [0, 3, 4, 6, 7, 5, 8]) H74 (by kernel_rfl), hS⟩
                  · replace hm := bF hc hm
                    refine w_exit rfl ?_
                    obtain rfl := someE hm
                    exact ⟨Fr.keep (ks := [3, 4, 6, 7, 8]) H68 (by kernel_rfl), hS⟩
              · rintro _ wd84 ⟨H, hS⟩
                obtain ⟨z76, hz, hm⟩ := bindE hm
                refine w_cut (fun a' w' => Fr 138 [(3, [], .string ⟨⟨z27.1⟩⟩), (4, [], .int .i64 z27.2.1), (6, [], .bool ((bat s 0) == 45)), (8, [], .int .i64 z76)] a' ∧ SH M X w [] w') ?_ ?_
                · replace hm := hz
                  refine s_reg [] [3, 4, 6, 8, 90] [(3, [], .string ⟨⟨z27.1⟩⟩), (4, [], .int .i64 z27.2.1), (6, [], .bool ((bat s 0) == 45)), (8, [], .int .i64 z64), (90, [], .bool ((bat s (w64 (z27.2.2 + 1))) == 45))] [] H (by kernel_rfl) trivial fun _ wd77 H78 hb => ?_
                  clear H
                  replace hS := hS.below hb
                  clear hb
                  refine w_if H78 rfl (fun hc => ?_) (fun hc => ?_)
                  · replace hm := bT hc hm
                    refine w_reg [] [3, 4, 6, 8] [(3, [], .string ⟨⟨z27.1⟩⟩), (4, [], .int .i64 z27.2.1), (6, [], .bool ((bat s 0) == 45)), (8, [], .int .i64 (w64 (0 - z64)))] [] H78 (by kernel_rfl) trivial fun _ wd79 H80 hb => ?_
                    clear H78
                    replace hS := hS.below hb
                    clear hb
                    obtain rfl := someE hm
                    exact ⟨Fr.keep (ks := [3, 4, 6, 8]) H80 (by kernel_rfl), hS⟩
                  · replace hm := bF hc hm
                    refine w_skip ?_
                    obtain rfl := someE hm
                    exact ⟨Fr.keep (ks := [3, 4, 6, 8]) H78 (by kernel_rfl), hS⟩
                · rintro _ wd83 ⟨H, hS⟩
                  refine w_reg [] [3, 4, 6] [(3, [], .string ⟨⟨z27.1⟩⟩), (4, [], .int .i64 (w64 (z27.2.1 + z76))), (6, [], .bool ((bat s 0) == 45))] [] H (by kernel_rfl) trivial fun _ wd81 H82 hb => ?_
                  clear H
                  replace hS := hS.below hb
                  clear hb
                  obtain rfl := someE hm
                  exact ⟨Fr.keep (ks := [3, 6, 4]) H82 (by kernel_rfl), hS⟩
          · replace hm := bF hc hm
            refine w_skip ?_
            obtain rfl := someE hm
            exact ⟨Fr.keep (ks := [3, 6, 4]) H50 (by kernel_rfl), hS⟩
        · rintro _ wd125 ⟨H, hS⟩
          refine s_reg [] [3, 4, 6, 9] [(3, [], .string ⟨⟨z27.1⟩⟩), (4, [], .int .i64 z48), (6, [], .bool ((bat s 0) == 45)), (9, [], .int .i64 0)] [] H (by kernel_rfl) trivial fun _ wd86 H87 hb => ?_
          clear H
          replace hS := hS.below hb
          clear hb
          obtain ⟨z88, hz, hm⟩ := bindE hm
          refine w_cut (fun a' w' => Fr 138 [(4, [], .int .i64 z48), (6, [], .bool ((bat s 0) == 45)), (9, [], .int .i64 z88)] a' ∧ SH M X w [] w') ?_ ?_
          · replace hm := hz
            refine s_reg [] [3, 4, 6, 9, 10] [(3, [], .string ⟨⟨z27.1⟩⟩), (4, [], .int .i64 z48), (6, [], .bool ((bat s 0) == 45)), (9, [], .int .i64 0), (10, [], .int .i64 0)] [] H87 (by kernel_rfl) trivial fun _ wd89 H90 hb => ?_
            clear H87
            replace hS := hS.below hb
            clear hb
            refine w_block ?_
            refine w_loop (fun kk a' w' => ∃ (v91 : Int) (v92 : Int), r02_Thousandths_L4 m z27 z48 kk v91 v92 = some _ ∧ Fr 138 [(3, [], .string ⟨⟨z27.1⟩⟩), (4, [], .int .i64 z48), (6, [], .bool ((bat s 0) == 45)), (9, [], .int .i64 v91), (10, [], .int .i64 v92)] a' ∧ SH M X w [] w') ⟨_, 0, 0, hm, Fr.keep (ks := [3, 4, 6, 9, 10]) H90 (by kernel_rfl), hS⟩ ?_
            clear hm H90 hS
            rintro kk _ wd103 ⟨v91, v92, hm, H, hS⟩
            cases kk with
            | zero => exact noneE hm
            | succ kk =>
              rw [r02_Thousandths_L4] at hm
              refine w_seq ?_
              obtain ⟨x93, hx93, hm⟩ := letE hm
              refine s_reg [] [3, 4, 6, 9, 10, 107] [(3, [], .string ⟨⟨z27.1⟩⟩), (4, [], .int .i64 z48), (6, [], .bool ((bat s 0) == 45)), (9, [], .int .i64 v91), (10, [], .int .i64 v92), (107, [], .bool x93)] [] H (by subst hx93; kernel_rfl) trivial fun _ wd94 H95 hb => ?_
              clear H
              replace hS := hS.below hb
              clear hb
              refine w_if H95 rfl (fun hc => ?_) (fun hc => ?_)
              · replace hm := bT hc hm
                refine w_skip ?_
                refine w_seq ?_
                refine w_block ?_
                obtain ⟨ho96, hm⟩ := chkE hm
                obtain ⟨x97, hx97, hm⟩ := letE hm
                obtain ⟨x98, hx98, hm⟩ := letE hm
                refine w_reg [] [3, 4, 6, 9, 10] [(3, [], .string ⟨⟨z27.1⟩⟩), (4, [], .int .i64 z48), (6, [], .bool ((bat s 0) == 45)), (9, [], .int .i64 x98), (10, [], .int .i64 v92)] [fun _ => 0 ≤ v92 ∧ v92 < ln z27.1] H95 (by subst hx97 hx98; kernel_rfl) ⟨ho96, trivial⟩ fun _ wd99 H100 hb => ?_
                clear H95
                replace hS := hS.below hb
                clear hb
                refine w_reg [] [3, 4, 6, 9, 10] [(3, [], .string ⟨⟨z27.1⟩⟩), (4, [], .int .i64 z48), (6, [], .bool ((bat s 0) == 45)), (9, [], .int .i64 x98), (10, [], .int .i64 (w64 (v92 + 1)))] [] H100 (by kernel_rfl) trivial fun _ wd101 H102 hb => ?_
                clear H100
                replace hS := hS.below hb
                clear hb
                exact ⟨_, Nat.lt_succ_self _, x98, w64 (v92 + 1), hm, Fr.keep (ks := [3, 4, 6, 9, 10]) H102 (by kernel_rfl), hS⟩
              · replace hm := bF hc hm
                refine w_exit rfl ?_
                obtain rfl := someE hm
                exact ⟨Fr.keep (ks := [4, 6, 9]) H95 (by kernel_rfl), hS⟩
          · rintro _ wd124 ⟨H, hS⟩
            obtain ⟨z104, hz, hm⟩ := bindE hm
            refine w_cut (fun a' w' => Fr 138 [(6, [], .bool ((bat s 0) == 45)), (9, [], .int .i64 z104)] a' ∧ SH M X w [] w') ?_ ?_
            · replace hm := hz
              refine w_block ?_
              refine w_loop (fun kk a' w' => ∃ (v105 : Int) (v106 : Int), r02_Thousandths_L5 m  kk v105 v106 = some _ ∧ Fr 138 [(6, [], .bool ((bat s 0) == 45)), (4, [], .int .i64 v105), (9, [], .int .i64 v106)] a' ∧ SH M X w [] w') ⟨_, z48, z88, hm, Fr.keep (ks := [6, 4, 9]) H (by kernel_rfl), hS⟩ ?_
              clear hm H hS
              rintro kk _ wd116 ⟨v105, v106, hm, H, hS⟩
              cases kk with
              | zero => exact noneE hm
              | succ kk =>
                rw [r02_Thousandths_L5] at hm
                refine w_seq ?_
                obtain ⟨x107, hx107, hm⟩ := letE hm
                obtain ⟨x108, hx108, hm⟩ := letE hm
                refine s_reg [] [4, 6, 9, 128] [(4, [], .int .i64 v105), (6, [], .bool ((bat s 0) == 45)), (9, [], .int .i64 v106), (128, [], .bool x108)] [] H (by subst hx107 hx108; kernel_rfl) trivial fun _ wd109 H110 hb => ?_
                clear H
                replace hS := hS.below hb
                clear hb
                refine w_if H110 rfl (fun hc => ?_) (fun hc => ?_)
                · replace hm := bT hc hm
                  refine w_skip ?_
                  refine w_seq ?_
                  refine w_block ?_
                  obtain ⟨x111, hx111, hm⟩ := letE hm
                  refine w_reg [] [4, 6, 9] [(4, [], .int .i64 v105), (6, [], .bool ((bat s 0) == 45)), (9, [], .int .i64 x111)] [] H110 (by subst hx111; kernel_rfl) trivial fun _ wd112 H113 hb => ?_
                  clear H110
                  replace hS := hS.below hb
                  clear hb
                  refine w_reg [] [4, 6, 9] [(4, [], .int .i64 (w64 (v105 - 1))), (6, [], .bool ((bat s 0) == 45)), (9, [], .int .i64 x111)] [] H113 (by kernel_rfl) trivial fun _ wd114 H115 hb => ?_
                  clear H113
                  replace hS := hS.below hb
                  clear hb
                  exact ⟨_, Nat.lt_succ_self _, w64 (v105 - 1), x111, hm, Fr.keep (ks := [6, 4, 9]) H115 (by kernel_rfl), hS⟩
                · replace hm := bF hc hm
                  refine w_exit rfl ?_
                  obtain rfl := someE hm
                  exact ⟨Fr.keep (ks := [6, 9]) H110 (by kernel_rfl), hS⟩
            · rintro _ wd123 ⟨H, hS⟩
              refine w_seq ?_
              refine s_reg [] [9, 134] [(9, [], .int .i64 z104), (134, [], .bool ((bat s 0) == 45))] [] H (by kernel_rfl) trivial fun _ wd117 H118 hb => ?_
              clear H
              replace hS := hS.below hb
              clear hb
              refine w_if H118 rfl (fun hc => ?_) (fun hc => ?_)
              · replace hm := bT hc hm
                refine s_reg [] [2] [(2, [], .int .i64 (w64 (0 - z104)))] [] H118 (by kernel_rfl) trivial fun _ wd119 H120 hb => ?_
                clear H118
                replace hS := hS.below hb
                clear hb
                refine w_ret ?_
                obtain rfl := someE hm
                exact retR1 H120 rfl rfl ⟨_, rfl, rfl, (hS.sel [] rfl)⟩
              · replace hm := bF hc hm
                refine w_skip ?_
                refine s_reg [] [2] [(2, [], .int .i64 z104)] [] H118 (by kernel_rfl) trivial fun _ wd121 H122 hb => ?_
                clear H118
                replace hS := hS.below hb
                clear hb
                refine w_ret ?_
                obtain rfl := someE hm
                exact retR1 H122 rfl rfl ⟨_, rfl, rfl, (hS.sel [] rfl)⟩
theorem r02_Thousandths_ok  (m : Nat) (s : Str) (r : Int) (hm : r02_Thousandths m s = some r) : Ret Tryd.prog 34 ⟨[.string ⟨⟨s⟩⟩]⟩ (.int .i64 r) := retP_of (Tryd.call34 _) (fun w h => r02_Thousandths_w F0 m   s r hm w h)

def r02_Value (m : Nat) (s : Str) : Option (Int × Bool × Int) :=
  cond (decide (4000 < (ln s))) (
  some (0, false, 28)) (
  Option.bind (r02_NumberAt s 0) fun y7 =>
  cond (!y7) (
  some (0, false, 12)) (
  Option.bind (r02_NumberEnd m s 0) fun y12 =>
  cond (y12.1 != (ln s)) (
  some (0, false, 12)) (
  Option.bind (r02_Thousandths m s) fun y19 =>
  some (y19, y12.2, 0))))
theorem r02_Value_w  (M : Av) (m : Nat) (s : Str) (r : Int × Bool × Int) (hm : r02_Value m s = some r) (w : World) (hS : S0 M [] w) : Calls Tryd.prog 22 ⟨[.string ⟨⟨s⟩⟩]⟩ w (fun e w' => ∃ v, e = .returned v ∧ v = .tuple ⟨[.int .i64 r.1, .bool r.2.1, .int .i64 r.2.2]⟩ ∧ SH M (fpl []) w [] w') := by
  rw [r02_Value] at hm
  have hS0 : SH M (fpl []) w [] w := hS
  generalize hX : fpl [] = X at hS0 ⊢
  clear hS hX
  have hS := hS0
  clear hS0
  refine calls_entryP Tryd.func22 rfl Tryd.ntmps22 rfl fun _ H => ?_
  refine s_reg [] [0] [(0, [], .string ⟨⟨s⟩⟩)] [] H (by kernel_rfl) trivial fun _ wd1 H2 hb => ?_
  clear H
  replace hS := hS.below hb
  clear hb
  refine w_seq ?_
  refine s_reg [] [0, 9] [(0, [], .string ⟨⟨s⟩⟩), (9, [], .bool (decide (4000 < (ln s))))] [] H2 (by kernel_rfl) trivial fun _ wd3 H4 hb => ?_
  clear H2
  replace hS := hS.below hb
  clear hb
  refine w_if H4 rfl (fun hc => ?_) (fun hc => ?_)
  · replace hm := bT hc hm
    refine s_reg [] [2, 3, 4] [(2, [], .int .i64 0), (3, [], .bool false), (4, [], .int .i64 28)] [] H4 (by kernel_rfl) trivial fun _ wd5 H6 hb => ?_
    clear H4
    replace hS := hS.below hb
    clear hb
    refine w_ret ?_
    obtain rfl := someE hm
    exact retR3 H6 rfl rfl rfl rfl ⟨_, rfl, rfl, (hS.sel [] rfl)⟩
  · replace hm := bF hc hm
    refine w_skip ?_
    refine w_seq ?_
    obtain ⟨y7, hy7, hm⟩ := bindE hm
    refine s_reg [(.bool y7)] [0, 12] [(0, [], .string ⟨⟨s⟩⟩), (12, [], .bool (!y7))] [fun wz => RetB Tryd.prog 32 ⟨[.string ⟨⟨s⟩⟩, .int .i64 0]⟩ (.bool y7) wz] H4 (by kernel_rfl) ⟨((r02_NumberAt_ok _ _ _ hy7).b), trivial⟩ fun _ wd8 H9 hb => ?_
    clear H4
    replace hS := hS.below hb
    clear hb
    refine w_if H9 rfl (fun hc => ?_) (fun hc => ?_)
    · replace hm := bT hc hm
      refine s_reg [] [2, 3, 4] [(2, [], .int .i64 0), (3, [], .bool false), (4, [], .int .i64 12)] [] H9 (by kernel_rfl) trivial fun _ wd10 H11 hb => ?_
      clear H9
      replace hS := hS.below hb
      clear hb
      refine w_ret ?_
      obtain rfl := someE hm
      exact retR3 H11 rfl rfl rfl rfl ⟨_, rfl, rfl, (hS.sel [] rfl)⟩
    · replace hm := bF hc hm
      refine w_skip ?_
      obtain ⟨y12, hy12, hm⟩ := bindE hm
      refine s_reg [(.tuple ⟨[.int .i64 y12.1, .bool y12.2]⟩)] [0, 5, 6] [(0, [], .string ⟨⟨s⟩⟩), (5, [], .int .i64 y12.1), (6, [], .bool y12.2)] [fun wz => RetB Tryd.prog 33 ⟨[.string ⟨⟨s⟩⟩, .int .i64 0]⟩ (.tuple ⟨[.int .i64 y12.1, .bool y12.2]⟩) wz] H9 (by kernel_rfl) ⟨((r02_NumberEnd_ok m _ _ _ hy12).b), trivial⟩ fun _ wd13 H14 hb => ?_
      clear H9
      replace hS := hS.below hb
      clear hb
      refine w_seq ?_
      refine s_reg [] [0, 6, 21] [(0, [], .string ⟨⟨s⟩⟩), (6, [], .bool y12.2), (21, [], .bool (y12.1 != (ln s)))] [] H14 (by kernel_rfl) trivial fun _ wd15 H16 hb => ?_
      clear H14
      replace hS := hS.below hb
      clear hb
      refine w_if H16 rfl (fun hc => ?_) (fun hc => ?_)
      · replace hm := bT hc hm
        refine s_reg [] [2, 3, 4] [(2, [], .int .i64 0), (3, [], .bool false), (4, [], .int .i64 12)] [] H16 (by kernel_rfl) trivial fun _ wd17 H18 hb => ?_
        clear H16
        replace hS := hS.below hb
        clear hb
        refine w_ret ?_
        obtain rfl := someE hm
        exact retR3 H18 rfl rfl rfl rfl ⟨_, rfl, rfl, (hS.sel [] rfl)⟩
      · replace hm := bF hc hm
        refine w_skip ?_
        obtain ⟨y19, hy19, hm⟩ := bindE hm
        refine s_reg [(.int .i64 y19)] [2, 3, 4] [(2, [], .int .i64 y19), (3, [], .bool y12.2), (4, [], .int .i64 0)] [fun wz => RetB Tryd.prog 34 ⟨[.string ⟨⟨s⟩⟩]⟩ (.int .i64 y19) wz] H16 (by kernel_rfl) ⟨((r02_Thousandths_ok m _ _ hy19).b), trivial⟩ fun _ wd20 H21 hb => ?_
        clear H16
        replace hS := hS.below hb
        clear hb
        refine w_ret ?_
        obtain rfl := someE hm
        exact retR3 H21 rfl rfl rfl rfl ⟨_, rfl, rfl, (hS.sel [] rfl)⟩
theorem r02_Value_ok  (m : Nat) (s : Str) (r : Int × Bool × Int) (hm : r02_Value m s = some r) : Ret Tryd.prog 22 ⟨[.string ⟨⟨s⟩⟩]⟩ (.tuple ⟨[.int .i64 r.1, .bool r.2.1, .int .i64 r.2.2]⟩) := retP_of (Tryd.call22 _) (fun w h => r02_Value_w F0 m   s r hm w h)

def r06_Read (m : Nat) (s : Str) : Option (Int × Int) :=
  Option.bind (r02_Value m s) fun y3 =>
  some (y3.1, y3.2.2)
theorem r06_Read_w  (M : Av) (m : Nat) (s : Str) (r : Int × Int) (hm : r06_Read m s = some r) (w : World) (hS : S0 M [] w) : Calls Tryd.prog 7 ⟨[.string ⟨⟨s⟩⟩]⟩ w (fun e w' => ∃ v, e = .returned v ∧ v = .tuple ⟨[.int .i64 r.1, .int .i64 r.2]⟩ ∧ SH M (fpl []) w [] w') := by
  rw [r06_Read] at hm
  have hS0 : SH M (fpl []) w [] w := hS
  generalize hX : fpl [] = X at hS0 ⊢
  clear hS hX
  have hS := hS0
  clear hS0
  refine calls_entryP Tryd.func7 rfl Tryd.ntmps7 rfl fun _ H => ?_
  refine s_reg [] [0] [(0, [], .string ⟨⟨s⟩⟩)] [] H (by kernel_rfl) trivial fun _ wd1 H2 hb => ?_
  clear H
  replace hS := hS.below hb
  clear hb
  obtain ⟨y3, hy3, hm⟩ := bindE hm
  refine s_reg [(.tuple ⟨[.int .i64 y3.1, .bool y3.2.1, .int .i64 y3.2.2]⟩)] [4, 6] [(4, [], .int .i64 y3.1), (6, [], .int .i64 y3.2.2)] [fun wz => RetB Tryd.prog 22 ⟨[.string ⟨⟨s⟩⟩]⟩ (.tuple ⟨[.int .i64 y3.1, .bool y3.2.1, .int .i64 y3.2.2]⟩) wz] H2 (by kernel_rfl) ⟨((r02_Value_ok m _ _ hy3).b), trivial⟩ fun _ wd4 H5 hb => ?_
  clear H2
  replace hS := hS.below hb
  clear hb
  refine s_reg [] [2, 3] [(2, [], .int .i64 y3.1), (3, [], .int .i64 y3.2.2)] [] H5 (by kernel_rfl) trivial fun _ wd6 H7 hb => ?_
  clear H5
  replace hS := hS.below hb
  clear hb
  refine w_ret ?_
  obtain rfl := someE hm
  exact retR2 H7 rfl rfl rfl ⟨_, rfl, rfl, (hS.sel [] rfl)⟩
theorem r06_Read_ok  (m : Nat) (s : Str) (r : Int × Int) (hm : r06_Read m s = some r) : Ret Tryd.prog 7 ⟨[.string ⟨⟨s⟩⟩]⟩ (.tuple ⟨[.int .i64 r.1, .int .i64 r.2]⟩) := retP_of (Tryd.call7 _) (fun w h => r06_Read_w F0 m   s r hm w h)

def fixed_check_L1 (m : Nat) (l_ : List Int) : Nat → Int → Option (Sum (Int) (Unit))
  | 0, _ => none
  | kk + 1, v6 =>
    cond (decide (v6 < (ln l_))) (
    chk (0 ≤ v6 ∧ v6 < ln l_) <|
    lt (cond (decide ((gi l_ v6) < (-1000000000000))) true (decide (1000000000000 < (gi l_ v6)))) fun x12 =>
    cond x12 (
    some (.inl 8)) (
    fixed_check_L1 m l_ kk (w64 (v6 + 1)))) (
    some (.inr ()))
def fixed_check (m : Nat) (l_ : List Int) : Option (Int) :=
  Option.bind (
  fixed_check_L1 m l_ m 0) fun (z3 : Sum (Int) (Unit)) => sumK z3 fun s_z3 =>
  some 0
theorem fixed_check_w {g_l_ : Gh} (M : Av) (m : Nat) (l_ : List Int) (r : Int) (hm : fixed_check m l_ = some r) (w : World) (hS : S0 M [Ent.im (tI .i64) l_ g_l_] w) : Calls Tryd.prog 23 ⟨[.slice g_l_.a l_.length g_l_.c]⟩ w (fun e w' => ∃ v, e = .returned v ∧ v = .int .i64 r ∧ SH M (fpl [Ent.im (tI .i64) l_ g_l_]) w [] w') := by
  rw [fixed_check] at hm
  have hS0 : SH M (fpl [Ent.im (tI .i64) l_ g_l_]) w [Ent.im (tI .i64) l_ g_l_] w := hS
  generalize hX : fpl [Ent.im (tI .i64) l_ g_l_] = X at hS0 ⊢
  clear hS hX
  have hS := hS0
  clear hS0
  refine calls_entryP Tryd.func23 rfl Tryd.ntmps23 rfl fun _ H => ?_
  refine s_reg [] [0] [(0, [], .slice g_l_.a l_.length g_l_.c)] [] H (by kernel_rfl) trivial fun _ wd1 H2 hb => ?_
  clear H
  replace hS := hS.below hb
  clear hb
  obtain ⟨z3, hz, hm_z3⟩ := bindE hm
  refine w_cut (fun a' w' => ∃ s_z3 : Unit, z3 = Sum.inr s_z3 ∧ Fr 18 [] a' ∧ SH M X w [Ent.im (tI .i64) l_ g_l_] w') ?_ ?_
  · replace hm := hz
    refine s_reg [] [5, 6, 7] [(5, [], .slice g_l_.a l_.length g_l_.c), (6, [], .int .i64 (ln l_)), (7, [], .int .i64 0)] [] H2 (by kernel_rfl) trivial fun _ wd4 H5 hb => ?_
    clear H2
    replace hS := hS.below hb
    clear hb
    refine w_block ?_
    refine w_loop (fun kk a' w' => ∃ (v6 : Int), fixed_check_L1 m l_ kk v6 = some _ ∧ Fr 18 [(5, [], .slice g_l_.a l_.length g_l_.c), (6, [], .int .i64 (ln l_)), (7, [], .int .i64 v6)] a' ∧ SH M X w [Ent.im (tI .i64) l_ g_l_] w') ⟨_, 0, hm, Fr.keep (ks := [5, 6, 7]) H5 (by kernel_rfl), hS⟩ ?_
    clear hm H5 hS
    rintro kk _ wd19 ⟨v6, hm, H, hS⟩
    cases kk with
    | zero => exact noneE hm
    | succ kk =>
      rw [fixed_check_L1] at hm
      refine s_reg [] [5, 6, 7, 8] [(5, [], .slice g_l_.a l_.length g_l_.c), (6, [], .int .i64 (ln l_)), (7, [], .int .i64 v6), (8, [], .bool (decide (v6 < (ln l_))))] [] H (by kernel_rfl) trivial fun _ wd7 H8 hb => ?_
      clear H
      replace hS := hS.below hb
      clear hb
      refine w_seq ?_
      refine w_if H8 rfl (fun hc => ?_) (fun hc => ?_)
      · replace hm := bT hc hm
        refine w_skip ?_
        refine w_seq ?_
        refine w_block ?_
        obtain ⟨ho9, hm⟩ := chkE hm
        refine s_reg [(.int .i64 (gi l_ v6))] [4, 5, 6, 7] [(4, [], .int .i64 (gi l_ v6)), (5, [], .slice g_l_.a l_.length g_l_.c), (6, [], .int .i64 (ln l_)), (7, [], .int .i64 v6)] [fun _ => oka g_l_.a ∧ 0 ≤ v6 ∧ v6 < ln l_, fun wz => V.at1 ⟨ab g_l_.a, ao g_l_.a + (v6).toNat * 1, none⟩ (.int .i64 (gi l_ v6)) wz] H8 (by kernel_rfl) ⟨((hS.im 0 rfl).oki ho9), ((hS.im 0 rfl).at1 ho9 0 rfl), trivial⟩ fun _ wd10 H11 hb => ?_
        clear H8
        replace hS := hS.below hb
        clear hb
        obtain ⟨x12, hx12, hm⟩ := letE hm
        refine s_reg [] [5, 6, 7, 16] [(5, [], .slice g_l_.a l_.length g_l_.c), (6, [], .int .i64 (ln l_)), (7, [], .int .i64 v6), (16, [], .bool x12)] [] H11 (by subst hx12; kernel_rfl) trivial fun _ wd13 H14 hb => ?_
        clear H11
        replace hS := hS.below hb
        clear hb
        refine w_if H14 rfl (fun hc => ?_) (fun hc => ?_)
        · replace hm := bT hc hm
          refine s_reg [] [2] [(2, [], .int .i64 8)] [] H14 (by kernel_rfl) trivial fun _ wd15 H16 hb => ?_
          clear H14
          replace hS := hS.below hb
          clear hb
          refine w_ret ?_
          obtain rfl := someE hm
          have hm := hm_z3
          obtain rfl := someE hm
          exact retR1 H16 rfl rfl ⟨_, rfl, rfl, (hS.sel [] rfl)⟩
        · replace hm := bF hc hm
          refine w_skip ?_
          refine w_reg [] [5, 6, 7] [(5, [], .slice g_l_.a l_.length g_l_.c), (6, [], .int .i64 (ln l_)), (7, [], .int .i64 (w64 (v6 + 1)))] [] H14 (by kernel_rfl) trivial fun _ wd17 H18 hb => ?_
          clear H14
          replace hS := hS.below hb
          clear hb
          exact ⟨_, Nat.lt_succ_self _, w64 (v6 + 1), hm, Fr.keep (ks := [5, 6, 7]) H18 (by kernel_rfl), hS⟩
      · replace hm := bF hc hm
        refine w_exit rfl ?_
        obtain rfl := someE hm
        exact ⟨_, rfl, Fr.keep (ks := []) H8 (by kernel_rfl), hS⟩
  · rintro _ wd22 ⟨s_z3, hz, H, hS⟩
    subst hz
    replace hm := sumR hm_z3
    replace hS : SH M X w [] _ := hS.sel [] rfl
    refine s_reg [] [2] [(2, [], .int .i64 0)] [] H (by kernel_rfl) trivial fun _ wd20 H21 hb => ?_
    clear H
    replace hS := hS.below hb
    clear hb
    refine w_ret ?_
    obtain rfl := someE hm
    exact retR1 H21 rfl rfl ⟨_, rfl, rfl, (hS.sel [] rfl)⟩
theorem fixed_check_ok {g_l_ : Gh} (m : Nat) (l_ : List Int) (r : Int) (hm : fixed_check m l_ = some r) (w : World) (hL : S0 F0 [Ent.im (tI .i64) l_ g_l_] w ∧ fpl [Ent.im (tI .i64) l_ g_l_] = []) : RetB Tryd.prog 23 ⟨[.slice g_l_.a l_.length g_l_.c]⟩ (.int .i64 r) w := retB_of hL (Tryd.call23 _) (fun w' h => fixed_check_w F0 m   l_ r hm w' h)

def fixed_Write_1 (c_ : Int) (u0 : Int) (u1 : List Int) : Option (Int × (List Int)) :=
  chk (0 ≤ (w64 (u0 - 1)) ∧ (w64 (u0 - 1)) < (20 : Int)) <|
  lt (seti u1 (w64 (u0 - 1)) c_) fun q10 =>
  some (w64 (u0 - 1), q10)
theorem fixed_Write_1_w {b_u0 : Nat} {b_u1 : Nat} (M : Av) (c_ : Int) (u0 : Int) (u1 : List Int) (r : Int × (List Int)) (hm : fixed_Write_1 c_ u0 u1 = some r) (w : World) (hS : S0 M [Ent.blk b_u0 [.int .i64 u0], Ent.row .u8 b_u1 u1 (20 : Int)] w) : Calls Tryd.prog 24 ⟨[.int .u8 c_, .pointer (some ⟨b_u0, 0, none⟩), .pointer (some ⟨b_u1, 0, none⟩)]⟩ w (fun e w' => ∃ v, e = .returned v ∧ v = .tuple ⟨[]⟩ ∧ SH M (fpl [Ent.blk b_u0 [.int .i64 u0], Ent.row .u8 b_u1 u1 (20 : Int)]) w [Ent.blk b_u0 [.int .i64 r.1], Ent.row .u8 b_u1 r.2 (20 : Int)] w') := by
  rw [fixed_Write_1] at hm
  have hS0 : SH M (fpl [Ent.blk b_u0 [.int .i64 u0], Ent.row .u8 b_u1 u1 (20 : Int)]) w [Ent.blk b_u0 [.int .i64 u0], Ent.row .u8 b_u1 u1 (20 : Int)] w := hS
  generalize hX : fpl [Ent.blk b_u0 [.int .i64 u0], Ent.row .u8 b_u1 u1 (20 : Int)] = X at hS0 ⊢
  clear hS hX
  have hS := hS0
  clear hS0
  refine calls_entryP Tryd.func24 rfl Tryd.ntmps24 rfl fun _ H => ?_
  refine w_seq ?_
  refine wl_start ?_
  refine wl_batch 0 2 [(.int .i64 u0)] [0, 1, 2, 5] [(0, [], .int .u8 c_), (1, [], .pointer (some ⟨b_u0, 0, none⟩)), (2, [], .pointer (some ⟨b_u1, 0, none⟩)), (5, [], .int .i64 (w64 (u0 - 1)))] [fun wz => V.at1 ⟨b_u0, 0, none⟩ (.int .i64 u0) wz] H (by decide) (by kernel_rfl) ⟨((hS.bk 0 rfl).at1 rfl), trivial⟩ fun _ wd1 H2 hb => ?_
  clear H
  replace hS := hS.below hb
  clear hb
  have hd : S0 (AvL M [Ent.row .u8 b_u1 u1 (20 : Int)]) [Ent.blk b_u0 [.int .i64 u0]] _ := hS.hand [0] [1] rfl rfl
  refine m_stp0 [0, 1, 2] [(0, [], .int .u8 c_), (1, [], .pointer (some ⟨b_u0, 0, none⟩)), (2, [], .pointer (some ⟨b_u1, 0, none⟩))] H2 rfl rfl rfl (o_store [.int .i64 (w64 (u0 - 1))] H2 hd rfl rfl (by kernel_rfl) rfl rfl rfl) rfl fun _ wd3 H4 hq => ?_
  clear H2 hd
  obtain ⟨_, hq⟩ := hq
  replace hS : SH M X w [Ent.blk b_u0 [.int .i64 (w64 (u0 - 1))], Ent.row .u8 b_u1 u1 (20 : Int)] _ := hS.join [0] [1] rfl rfl hq
  clear hq
  refine wl_end rfl ?_
  refine wl_start ?_
  obtain ⟨ho5, hm⟩ := chkE hm
  refine wl_batch 0 3 [(.int .i64 (w64 (u0 - 1)))] [7, 8] [(7, [], .int .u8 c_), (8, [], .pointer (some ⟨b_u1, 0 + ((w64 (u0 - 1))).toNat * 1, none⟩))] [fun wz => V.at1 ⟨b_u0, 0, none⟩ (.int .i64 (w64 (u0 - 1))) wz, fun _ => 0 ≤ (w64 (u0 - 1)) ∧ (w64 (u0 - 1)) < (20 : Int)] H4 (by decide) (by kernel_rfl) ⟨((hS.bk 0 rfl).at1 rfl), ho5, trivial⟩ fun _ wd6 H7 hb => ?_
  clear H4
  replace hS := hS.below hb
  clear hb
  have hd : S0 (AvL M [Ent.blk b_u0 [.int .i64 (w64 (u0 - 1))]]) [Ent.row .u8 b_u1 u1 (20 : Int)] _ := hS.hand [1] [0] rfl rfl
  refine m_stp0 [] [] H7 rfl rfl rfl (o_rstore H7 hd rfl rfl (by kernel_rfl) ho5) rfl fun _ wd8 H9 hq => ?_
  clear H7 hd
  obtain ⟨_, hq⟩ := hq
  obtain ⟨q10, hq10, hm⟩ := letE hm
  rw [← hq10] at hq
  replace hS : SH M X w [Ent.row .u8 b_u1 q10 (20 : Int), Ent.blk b_u0 [.int .i64 (w64 (u0 - 1))]] _ := hS.join [1] [0] rfl rfl hq
  clear hq
  refine wl_end rfl ?_
  obtain rfl := someE hm
  try dsimp only
  exact retR0 H9 rfl ⟨_, rfl, rfl, (hS.sel [1, 0] rfl)⟩
theorem fixed_Write_1_ok {b_u0 : Nat} {b_u1 : Nat} (c_ : Int) (u0 : Int) (u1 : List Int) (r : Int × (List Int)) (hm : fixed_Write_1 c_ u0 u1 = some r) (M : Av) (w : World) (hS : S0 M [Ent.blk b_u0 [.int .i64 u0], Ent.row .u8 b_u1 u1 (20 : Int)] w) : DoesX Tryd.prog 24 ⟨[.int .u8 c_, .pointer (some ⟨b_u0, 0, none⟩), .pointer (some ⟨b_u1, 0, none⟩)]⟩ w (fun v w' => v = .tuple ⟨[]⟩ ∧ SH M (fpl [Ent.blk b_u0 [.int .i64 u0], Ent.row .u8 b_u1 u1 (20 : Int)]) w [Ent.blk b_u0 [.int .i64 r.1], Ent.row .u8 b_u1 r.2 (20 : Int)] w') := ⟨Tryd.call24 _, fixed_Write_1_w M   c_ u0 u1 r hm w hS⟩

def fixed_Write_L1 (m : Nat)  : Nat → Int → Int → Int → (List Int) → Option (Int × (List Int))
  | 0, _, _, _, _ => none
  | kk + 1, v38, v39, v40, v41 =>
    cond (decide (v39 < 3)) (
    Option.bind (
    Option.bind (
    lt (cond ((Int.tmod v38 10) != 0) true (decide (v40 < 20))) fun x50 =>
    cond x50 (
    Option.bind (fixed_Write_1 (wu8 (w64 (48 + (Int.tmod v38 10)))) v40 v41) fun y55 =>
    some (y55.1, y55.2)) (
    some (v40, v41))) fun (z47 : Int × (List Int)) =>
    lt (cond (v39 == 2) (decide (z47.1 < 20)) false) fun x60 =>
    cond x60 (
    Option.bind (fixed_Write_1 46 z47.1 z47.2) fun y65 =>
    some (w64 (Int.tdiv v38 10), y65.1, y65.2)) (
    some (w64 (Int.tdiv v38 10), z47.1, z47.2))) fun (z44 : Int × Int × (List Int)) =>
    fixed_Write_L1 m  kk z44.1 (w64 (v39 + 1)) z44.2.1 z44.2.2) (
    some (v40, v41))
def fixed_Write_L2 (m : Nat)  : Nat → Int → Int → (List Int) → Option (Int × (List Int))
  | 0, _, _, _ => none
  | kk + 1, v76, v77, v78 =>
    Option.bind (fixed_Write_1 (wu8 (w64 (48 + (Int.tmod v76 10)))) v77 v78) fun y81 =>
    cond (decide (v76 < 10)) (
    some (y81.1, y81.2)) (
    fixed_Write_L2 m  kk (w64 (Int.tdiv v76 10)) y81.1 y81.2)
def fixed_Write (m : Nat) (n_ : Int) : Option (Str × Int) :=
  Option.bind (fixed_check m ([n_] : List Int)) fun y9 =>
  cond (y9 != 0) (
  some ([], y9)) (
  Option.bind (
  cond (decide (n_ < 0)) (
  some (w64 (0 - n_))) (
  some n_)) fun (z18 : Int) =>
  Option.bind (
  fixed_Write_L1 m  m (Int.tmod z18 1000) 0 20 [0, 0, 0, 0, 0, 0, 0, 0, 0, 0, 0, 0, 0, 0, 0, 0, 0, 0, 0, 0]) fun (z35 : Int × (List Int)) =>
  Option.bind (
  fixed_Write_L2 m  m (w64 (Int.tdiv z18 1000)) z35.1 z35.2) fun (z73 : Int × (List Int)) =>
  Option.bind (
  cond (decide (n_ < 0)) (
  Option.bind (fixed_Write_1 45 z73.1 z73.2) fun y94 =>
  some (y94.1, y94.2)) (
  some (z73.1, z73.2))) fun (z89 : Int × (List Int)) =>
  chk (0 ≤ z89.1 ∧ z89.1 < (20 : Int)) <|
  some (toB (z89.2.drop (z89.1).toNat), 0))
theorem fixed_Write_w  (M : Av) (m : Nat) (n_ : Int) (r : Str × Int) (hm : fixed_Write m n_ = some r) (w : World) (hS : S0 M [] w) : Calls Tryd.prog 8 ⟨[.int .i64 n_]⟩ w (fun e w' => ∃ v, e = .returned v ∧ v = .tuple ⟨[.string ⟨⟨r.1⟩⟩, .int .i64 r.2]⟩ ∧ SH M (fpl []) w [] w') := by
  rw [fixed_Write] at hm
  have hS0 : SH M (fpl []) w [] w := hS
  generalize hX : fpl [] = X at hS0 ⊢
  clear hS hX
  have hS := hS0
  clear hS0
  refine calls_entryP Tryd.func8 rfl Tryd.ntmps8 rfl fun _ H => ?_
  refine s_reg [] [0] [(0, [], .int .i64 n_)] [] H (by kernel_rfl) trivial fun _ wd1 H2 hb => ?_
  clear H
  replace hS := hS.below hb
  clear hb
  refine w_seq ?_
  refine w_seq ?_
  refine wl_start ?_
  refine wl_batch 0 1 [] [0, 12] [(0, [], .int .i64 n_), (12, [], .int .i64 n_)] [] H2 (by decide) (by kernel_rfl) trivial fun _ wd3 H4 hb => ?_
  clear H2
  replace hS := hS.below hb
  clear hb
  have hd : S0 (AvL M []) [] _ := hS.hand [] [] rfl rfl
  refine m_stp [13, 0] [(0, [], .int .i64 n_)] H4 rfl rfl rfl rfl (o_lit (T := (tI .i64)) (E := 2) (zv := .int .i64 0) [.int .i64 n_] ([n_] : List Int) [gL []] _ H4 hd rfl (by kernel_rfl) (by kernel_rfl) (by kernel_rfl) (by kernel_rfl) (by kernel_rfl) (by kernel_rfl) (by kernel_rfl) rfl (InnL.cons trivial InnL.nil)) (fun _ => rfl) fun _ wd7 v H8 hq => ?_
  clear H4 hd
  obtain ⟨g5, rfl, hq⟩ := hq
  replace hS : SH M X w [Ent.own 2 (tI .i64) ([n_] : List Int) g5] _ := hS.join [] [] rfl rfl hq
  clear hq
  obtain ⟨y9, hy9, hm⟩ := bindE hm
  refine wl_batch 2 4 [(.int .i64 y9)] [0, 4] [(0, [], .int .i64 n_), (4, [], .int .i64 y9)] [fun wz => RetB Tryd.prog 23 ⟨[.slice g5.a 1 g5.c]⟩ (.int .i64 y9) wz] H8 (by decide) (by kernel_rfl) ⟨(fixed_check_ok (g_l_ := g5) m _ _ hy9 _ (s0im s0nil (hS.osl 0 rfl))), trivial⟩ fun _ wd10 H11 hb => ?_
  clear H8
  replace hS := hS.below hb
  clear hb
  refine wl_end rfl ?_
  replace hS : SH M X w [] _ := hS.sel [] rfl
  refine s_reg [] [0, 4, 16] [(0, [], .int .i64 n_), (4, [], .int .i64 y9), (16, [], .bool (y9 != 0))] [] H11 (by kernel_rfl) trivial fun _ wd12 H13 hb => ?_
  clear H11
  replace hS := hS.below hb
  clear hb
  refine w_if H13 rfl (fun hc => ?_) (fun hc => ?_)
  · replace hm := bT hc hm
    refine s_reg [] [2, 3] [(2, [], .string ⟨⟨[]⟩⟩), (3, [], .int .i64 y9)] [] H13 (by kernel_rfl) trivial fun _ wd14 H15 hb => ?_
    clear H13
    replace hS := hS.below hb
    clear hb
    refine w_ret ?_
    obtain rfl := someE hm
    exact retR2 H15 rfl rfl rfl ⟨_, rfl, rfl, (hS.sel [] rfl)⟩
  · replace hm := bF hc hm
    refine w_skip ?_
    refine s_reg [] [0, 5] [(0, [], .int .i64 n_), (5, [], .bool (decide (n_ < 0)))] [] H13 (by kernel_rfl) trivial fun _ wd16 H17 hb => ?_
    clear H13
    replace hS := hS.below hb
    clear hb
    obtain ⟨z18, hz, hm⟩ := bindE hm
    refine w_cut (fun a' w' => Fr 71 [(5, [], .bool (decide (n_ < 0))), (0, [], .int .i64 z18)] a' ∧ SH M X w [] w') ?_ ?_
    · replace hm := hz
      refine s_reg [] [0, 5, 20] [(0, [], .int .i64 n_), (5, [], .bool (decide (n_ < 0))), (20, [], .bool (decide (n_ < 0)))] [] H17 (by kernel_rfl) trivial fun _ wd19 H20 hb => ?_
      clear H17
      replace hS := hS.below hb
      clear hb
      refine w_if H20 rfl (fun hc => ?_) (fun hc => ?_)
      · replace hm := bT hc hm
        refine w_reg [] [0, 5] [(0, [], .int .i64 (w64 (0 - n_))), (5, [], .bool (decide (n_ < 0)))] [] H20 (by kernel_rfl) trivial fun _ wd21 H22 hb => ?_
        clear H20
        replace hS := hS.below hb
        clear hb
        obtain rfl := someE hm
        exact ⟨Fr.keep (ks := [5, 0]) H22 (by kernel_rfl), hS⟩
      · replace hm := bF hc hm
        refine w_skip ?_
        obtain rfl := someE hm
        exact ⟨Fr.keep (ks := [5, 0]) H20 (by kernel_rfl), hS⟩
    · rintro _ wd103 ⟨H, hS⟩
      refine w_seq ?_
      refine wl_start ?_
      have hd : S0 (AvL M []) [] _ := hS.hand [] [] rfl rfl
      refine m_stp [6, 0, 5] [(0, [], .int .i64 z18), (5, [], .bool (decide (n_ < 0)))] H rfl rfl rfl rfl (o_allocR .u8 [0, 0, 0, 0, 0, 0, 0, 0, 0, 0, 0, 0, 0, 0, 0, 0, 0, 0, 0, 0] (z := .agg ⟨[.int .u8 0, .int .u8 0, .int .u8 0, .int .u8 0, .int .u8 0, .int .u8 0, .int .u8 0, .int .u8 0, .int .u8 0, .int .u8 0, .int .u8 0, .int .u8 0, .int .u8 0, .int .u8 0, .int .u8 0, .int .u8 0, .int .u8 0, .int .u8 0, .int .u8 0, .int .u8 0]⟩) hd (by kernel_rfl) rfl) (fun _ => rfl) fun _ wd24 v H25 hq => ?_
      clear H hd
      obtain ⟨b23, rfl, hq⟩ := hq
      replace hS : SH M X w [Ent.row .u8 b23 [0, 0, 0, 0, 0, 0, 0, 0, 0, 0, 0, 0, 0, 0, 0, 0, 0, 0, 0, 0] (20 : Int)] _ := hS.join [] [] rfl rfl hq
      clear hq
      refine wl_end rfl ?_
      refine w_seq ?_
      refine wl_start ?_
      have hd : S0 (AvL M [Ent.row .u8 b23 [0, 0, 0, 0, 0, 0, 0, 0, 0, 0, 0, 0, 0, 0, 0, 0, 0, 0, 0, 0] (20 : Int)]) [] _ := hS.hand [] [0] rfl rfl
      refine m_stp [7, 0, 5, 6] [(0, [], .int .i64 z18), (5, [], .bool (decide (n_ < 0))), (6, [], .pointer (some ⟨b23, 0, none⟩))] H25 rfl rfl rfl rfl (o_alloc [.int .i64 0] (z := .int .i64 0) hd (by kernel_rfl) rfl) (fun _ => rfl) fun _ wd27 v H28 hq => ?_
      clear H25 hd
      obtain ⟨b26, rfl, hq⟩ := hq
      replace hS : SH M X w [Ent.blk b26 [.int .i64 0], Ent.row .u8 b23 [0, 0, 0, 0, 0, 0, 0, 0, 0, 0, 0, 0, 0, 0, 0, 0, 0, 0, 0, 0] (20 : Int)] _ := hS.join [] [0] rfl rfl hq
      clear hq
      have hd : S0 (AvL M [Ent.row .u8 b23 [0, 0, 0, 0, 0, 0, 0, 0, 0, 0, 0, 0, 0, 0, 0, 0, 0, 0, 0, 0] (20 : Int)]) [Ent.blk b26 [.int .i64 0]] _ := hS.hand [0] [1] rfl rfl
      refine m_stp0 [0, 5, 6, 7] [(0, [], .int .i64 z18), (5, [], .bool (decide (n_ < 0))), (6, [], .pointer (some ⟨b23, 0, none⟩)), (7, [], .pointer (some ⟨b26, 0, none⟩))] H28 rfl rfl rfl (o_store [.int .i64 20] H28 hd rfl rfl (by kernel_rfl) rfl rfl rfl) rfl fun _ wd29 H30 hq => ?_
      clear H28 hd
      obtain ⟨_, hq⟩ := hq
      replace hS : SH M X w [Ent.blk b26 [.int .i64 20], Ent.row .u8 b23 [0, 0, 0, 0, 0, 0, 0, 0, 0, 0, 0, 0, 0, 0, 0, 0, 0, 0, 0, 0] (20 : Int)] _ := hS.join [0] [1] rfl rfl hq
      clear hq
      refine wl_end rfl ?_
      refine s_reg [] [0, 5, 6, 7, 8] [(0, [], .int .i64 z18), (5, [], .bool (decide (n_ < 0))), (6, [], .pointer (some ⟨b23, 0, none⟩)), (7, [], .pointer (some ⟨b26, 0, none⟩)), (8, [], .func (.func 24) ⟨[]⟩ ⟨[.pointer (some ⟨b26, 0, none⟩), .pointer (some ⟨b23, 0, none⟩)]⟩)] [] H30 (by kernel_rfl) trivial fun _ wd31 H32 hb => ?_
      clear H30
      replace hS := hS.below hb
      clear hb
      refine s_reg [] [0, 5, 6, 7, 8, 9] [(0, [], .int .i64 z18), (5, [], .bool (decide (n_ < 0))), (6, [], .pointer (some ⟨b23, 0, none⟩)), (7, [], .pointer (some ⟨b26, 0, none⟩)), (8, [], .func (.func 24) ⟨[]⟩ ⟨[.pointer (some ⟨b26, 0, none⟩), .pointer (some ⟨b23, 0, none⟩)]⟩), (9, [], .int .i64 (Int.tmod z18 1000))] [fun _ => (1000 : Int) ≠ 0] H32 (by kernel_rfl) ⟨(by show (1000 : Int) ≠ 0; decide), trivial⟩ fun _ wd33 H34 hb => ?_
      clear H32
      replace hS := hS.below hb
      clear hb
      obtain ⟨z35, hz, hm⟩ := bindE hm
      refine w_cut (fun a' w' => Fr 71 [(0, [], .int .i64 z18), (5, [], .bool (decide (n_ < 0))), (6, [], .pointer (some ⟨b23, 0, none⟩)), (7, [], .pointer (some ⟨b26, 0, none⟩)), (8, [], .func (.func 24) ⟨[]⟩ ⟨[.pointer (some ⟨b26, 0, none⟩), .pointer (some ⟨b23, 0, none⟩)]⟩)] a' ∧ SH M X w [Ent.blk b26 [.int .i64 z35.1], Ent.row .u8 b23 z35.2 (20 : Int)] w') ?_ ?_
      · replace hm := hz
        refine s_reg [] [0, 5, 6, 7, 8, 9, 26] [(0, [], .int .i64 z18), (5, [], .bool (decide (n_ < 0))), (6, [], .pointer (some ⟨b23, 0, none⟩)), (7, [], .pointer (some ⟨b26, 0, none⟩)), (8, [], .func (.func 24) ⟨[]⟩ ⟨[.pointer (some ⟨b26, 0, none⟩), .pointer (some ⟨b23, 0, none⟩)]⟩), (9, [], .int .i64 (Int.tmod z18 1000)), (26, [], .int .i64 0)] [] H34 (by kernel_rfl) trivial fun _ wd36 H37 hb => ?_
        clear H34
        replace hS := hS.below hb
        clear hb
        refine w_block ?_
        refine w_loop (fun kk a' w' => ∃ (v38 : Int) (v39 : Int) (v40 : Int) (v41 : List Int), fixed_Write_L1 m  kk v38 v39 v40 v41 = some _ ∧ Fr 71 [(0, [], .int .i64 z18), (5, [], .bool (decide (n_ < 0))), (6, [], .pointer (some ⟨b23, 0, none⟩)), (7, [], .pointer (some ⟨b26, 0, none⟩)), (8, [], .func (.func 24) ⟨[]⟩ ⟨[.pointer (some ⟨b26, 0, none⟩), .pointer (some ⟨b23, 0, none⟩)]⟩), (9, [], .int .i64 v38), (26, [], .int .i64 v39)] a' ∧ SH M X w [Ent.blk b26 [.int .i64 v40], Ent.row .u8 b23 v41 (20 : Int)] w') ⟨_, Int.tmod z18 1000, 0, 20, [0, 0, 0, 0, 0, 0, 0, 0, 0, 0, 0, 0, 0, 0, 0, 0, 0, 0, 0, 0], hm, Fr.keep (ks := [0, 5, 6, 7, 8, 9, 26]) H37 (by kernel_rfl), hS⟩ ?_
        clear hm H37 hS
        rintro kk _ wd72 ⟨v38, v39, v40, v41, hm, H, hS⟩
        cases kk with
        | zero => exact noneE hm
        | succ kk =>
          rw [fixed_Write_L1] at hm
          refine s_reg [] [0, 5, 6, 7, 8, 9, 26, 27] [(0, [], .int .i64 z18), (5, [], .bool (decide (n_ < 0))), (6, [], .pointer (some ⟨b23, 0, none⟩)), (7, [], .pointer (some ⟨b26, 0, none⟩)), (8, [], .func (.func 24) ⟨[]⟩ ⟨[.pointer (some ⟨b26, 0, none⟩), .pointer (some ⟨b23, 0, none⟩)]⟩), (9, [], .int .i64 v38), (26, [], .int .i64 v39), (27, [], .bool (decide (v39 < 3)))] [] H (by kernel_rfl) trivial fun _ wd42 H43 hb => ?_
          clear H
          replace hS := hS.below hb
          clear hb
          refine w_seq ?_
          refine w_if H43 rfl (fun hc => ?_) (fun hc => ?_)
          · replace hm := bT hc hm
            refine w_skip ?_
            obtain ⟨z44, hz, hm⟩ := bindE hm
            refine w_cut (fun a' w' => Fr 71 [(0, [], .int .i64 z18), (5, [], .bool (decide (n_ < 0))), (6, [], .pointer (some ⟨b23, 0, none⟩)), (7, [], .pointer (some ⟨b26, 0, none⟩)), (8, [], .func (.func 24) ⟨[]⟩ ⟨[.pointer (some ⟨b26, 0, none⟩), .pointer (some ⟨b23, 0, none⟩)]⟩), (26, [], .int .i64 v39), (9, [], .int .i64 z44.1)] a' ∧ SH M X w [Ent.blk b26 [.int .i64 z44.2.1], Ent.row .u8 b23 z44.2.2 (20 : Int)] w') ?_ ?_
            · replace hm := hz
              refine w_block ?_
              refine s_reg [] [0, 5, 6, 7, 8, 9, 10, 26] [(0, [], .int .i64 z18), (5, [], .bool (decide (n_ < 0))), (6, [], .pointer (some ⟨b23, 0, none⟩)), (7, [], .pointer (some ⟨b26, 0, none⟩)), (8, [], .func (.func 24) ⟨[]⟩ ⟨[.pointer (some ⟨b26, 0, none⟩), .pointer (some ⟨b23, 0, none⟩)]⟩), (9, [], .int .i64 v38), (10, [], .int .i64 v39), (26, [], .int .i64 v39)] [] H43 (by kernel_rfl) trivial fun _ wd45 H46 hb => ?_
              clear H43
              replace hS := hS.below hb
              clear hb
              obtain ⟨z47, hz, hm⟩ := bindE hm
              refine w_cut (fun a' w' => Fr 71 [(0, [], .int .i64 z18), (5, [], .bool (decide (n_ < 0))), (6, [], .pointer (some ⟨b23, 0, none⟩)), (7, [], .pointer (some ⟨b26, 0, none⟩)), (8, [], .func (.func 24) ⟨[]⟩ ⟨[.pointer (some ⟨b26, 0, none⟩), .pointer (some ⟨b23, 0, none⟩)]⟩), (9, [], .int .i64 v38), (10, [], .int .i64 v39), (26, [], .int .i64 v39)] a' ∧ SH M X w [Ent.blk b26 [.int .i64 z47.1], Ent.row .u8 b23 z47.2 (20 : Int)] w') ?_ ?_
              · replace hm := hz
                refine s_reg [] [0, 5, 6, 7, 8, 9, 10, 11, 26] [(0, [], .int .i64 z18), (5, [], .bool (decide (n_ < 0))), (6, [], .pointer (some ⟨b23, 0, none⟩)), (7, [], .pointer (some ⟨b26, 0, none⟩)), (8, [], .func (.func 24) ⟨[]⟩ ⟨[.pointer (some ⟨b26, 0, none⟩), .pointer (some ⟨b23, 0, none⟩)]⟩), (9, [], .int .i64 v38), (10, [], .int .i64 v39), (11, [], .int .i64 (Int.tmod v38 10)), (26, [], .int .i64 v39)] [fun _ => (10 : Int) ≠ 0] H46 (by kernel_rfl) ⟨(by show (10 : Int) ≠ 0; decide), trivial⟩ fun _ wd48 H49 hb => ?_
                clear H46
                replace hS := hS.below hb
                clear hb
                obtain ⟨x50, hx50, hm⟩ := letE hm
                refine s_reg [(.int .i64 v40)] [0, 5, 6, 7, 8, 9, 10, 11, 26, 36] [(0, [], .int .i64 z18), (5, [], .bool (decide (n_ < 0))), (6, [], .pointer (some ⟨b23, 0, none⟩)), (7, [], .pointer (some ⟨b26, 0, none⟩)), (8, [], .func (.func 24) ⟨[]⟩ ⟨[.pointer (some ⟨b26, 0, none⟩), .pointer (some ⟨b23, 0, none⟩)]⟩), (9, [], .int .i64 v38), (10, [], .int .i64 v39), (11, [], .int .i64 (Int.tmod v38 10)), (26, [], .int .i64 v39), (36, [], .bool x50)] [fun wz => (((Int.tmod v38 10) != 0) = false ∧ True → V.at1 ⟨b26, 0, none⟩ (.int .i64 v40) wz)] H49 (by subst hx50; kernel_rfl) ⟨fun hg => (hS.bk 0 rfl).at1 rfl, trivial⟩ fun _ wd51 H52 hb => ?_
                clear H49
                replace hS := hS.below hb
                clear hb
                refine w_if H52 rfl (fun hc => ?_) (fun hc => ?_)
                · replace hm := bT hc hm
                  refine wl_start ?_
                  refine wl_batch 0 4 [] [0, 5, 6, 7, 8, 9, 10, 26, 37, 40] [(0, [], .int .i64 z18), (5, [], .bool (decide (n_ < 0))), (6, [], .pointer (some ⟨b23, 0, none⟩)), (7, [], .pointer (some ⟨b26, 0, none⟩)), (8, [], .func (.func 24) ⟨[]⟩ ⟨[.pointer (some ⟨b26, 0, none⟩), .pointer (some ⟨b23, 0, none⟩)]⟩), (9, [], .int .i64 v38), (10, [], .int .i64 v39), (26, [], .int .i64 v39), (37, [], .func (.func 24) ⟨[]⟩ ⟨[.pointer (some ⟨b26, 0, none⟩), .pointer (some ⟨b23, 0, none⟩)]⟩), (40, [], .int .u8 (wu8 (w64 (48 + (Int.tmod v38 10)))))] [] H52 (by decide) (by kernel_rfl) trivial fun _ wd53 H54 hb => ?_
                  clear H52
                  replace hS := hS.below hb
                  clear hb
                  obtain ⟨y55, hy55, hm⟩ := bindE hm
                  have hd : S0 (AvL M []) [Ent.blk b26 [.int .i64 v40], Ent.row .u8 b23 v41 (20 : Int)] _ := hS.hand [0, 1] [] rfl rfl
                  refine m_stp [41, 0, 5, 6, 7, 8, 9, 10, 26] [(0, [], .int .i64 z18), (5, [], .bool (decide (n_ < 0))), (6, [], .pointer (some ⟨b23, 0, none⟩)), (7, [], .pointer (some ⟨b26, 0, none⟩)), (8, [], .func (.func 24) ⟨[]⟩ ⟨[.pointer (some ⟨b26, 0, none⟩), .pointer (some ⟨b23, 0, none⟩)]⟩), (9, [], .int .i64 v38), (10, [], .int .i64 v39), (26, [], .int .i64 v39)] H54 rfl rfl rfl rfl (o_callx H54 rfl rfl (fixed_Write_1_ok (b_u0 := b26) (b_u1 := b23) _ _ _ _ hy55 _ _ hd)) (fun _ => rfl) fun _ wd56 v H57 hq => ?_
                  clear H54 hd
                  obtain ⟨rfl, hq⟩ := hq
                  replace hS : SH M X w [Ent.blk b26 [.int .i64 y55.1], Ent.row .u8 b23 y55.2 (20 : Int)] _ := hS.join [0, 1] [] rfl rfl hq
                  clear hq
                  refine wl_end rfl ?_
                  obtain rfl := someE hm
                  exact ⟨Fr.keep (ks := [0, 5, 6, 7, 8, 9, 10, 26]) H57 (by kernel_rfl), hS⟩
                · replace hm := bF hc hm
                  refine w_skip ?_
                  obtain rfl := someE hm
                  exact ⟨Fr.keep (ks := [0, 5, 6, 7, 8, 9, 10, 26]) H52 (by kernel_rfl), hS⟩
              · rintro _ wd68 ⟨H, hS⟩
                refine s_reg [] [0, 5, 6, 7, 8, 9, 10, 26] [(0, [], .int .i64 z18), (5, [], .bool (decide (n_ < 0))), (6, [], .pointer (some ⟨b23, 0, none⟩)), (7, [], .pointer (some ⟨b26, 0, none⟩)), (8, [], .func (.func 24) ⟨[]⟩ ⟨[.pointer (some ⟨b26, 0, none⟩), .pointer (some ⟨b23, 0, none⟩)]⟩), (9, [], .int .i64 (w64 (Int.tdiv v38 10))), (10, [], .int .i64 v39), (26, [], .int .i64 v39)] [fun _ => (10 : Int) ≠ 0] H (by kernel_rfl) ⟨(by show (10 : Int) ≠ 0; decide), trivial⟩ fun _ wd58 H59 hb => ?_
                clear H
                replace hS := hS.below hb
                clear hb
                obtain ⟨x60, hx60, hm⟩ := letE hm
                refine s_reg [(.int .i64 z47.1)] [0, 5, 6, 7, 8, 9, 26, 49] [(0, [], .int .i64 z18), (5, [], .bool (decide (n_ < 0))), (6, [], .pointer (some ⟨b23, 0, none⟩)), (7, [], .pointer (some ⟨b26, 0, none⟩)), (8, [], .func (.func 24) ⟨[]⟩ ⟨[.pointer (some ⟨b26, 0, none⟩), .pointer (some ⟨b23, 0, none⟩)]⟩), (9, [], .int .i64 (w64 (Int.tdiv v38 10))), (26, [], .int .i64 v39), (49, [], .bool x60)] [fun wz => ((v39 == 2) = true ∧ True → V.at1 ⟨b26, 0, none⟩ (.int .i64 z47.1) wz)] H59 (by subst hx60; kernel_rfl) ⟨fun hg => (hS.bk 0 rfl).at1 rfl, trivial⟩ fun _ wd61 H62 hb => ?_
                clear H59
                replace hS := hS.below hb
                clear hb
                refine w_if H62 rfl (fun hc => ?_) (fun hc => ?_)
                · replace hm := bT hc hm
                  refine wl_start ?_
                  refine wl_batch 0 1 [] [0, 5, 6, 7, 8, 9, 26, 50] [(0, [], .int .i64 z18), (5, [], .bool (decide (n_ < 0))), (6, [], .pointer (some ⟨b23, 0, none⟩)), (7, [], .pointer (some ⟨b26, 0, none⟩)), (8, [], .func (.func 24) ⟨[]⟩ ⟨[.pointer (some ⟨b26, 0, none⟩), .pointer (some ⟨b23, 0, none⟩)]⟩), (9, [], .int .i64 (w64 (Int.tdiv v38 10))), (26, [], .int .i64 v39), (50, [], .func (.func 24) ⟨[]⟩ ⟨[.pointer (some ⟨b26, 0, none⟩), .pointer (some ⟨b23, 0, none⟩)]⟩)] [] H62 (by decide) (by kernel_rfl) trivial fun _ wd63 H64 hb => ?_
                  clear H62
                  replace hS := hS.below hb
                  clear hb
                  obtain ⟨y65, hy65, hm⟩ := bindE hm
                  have hd : S0 (AvL M []) [Ent.blk b26 [.int .i64 z47.1], Ent.row .u8 b23 z47.2 (20 : Int)] _ := hS.hand [0, 1] [] rfl rfl
                  refine m_stp [51, 0, 5, 6, 7, 8, 9, 26] [(0, [], .int .i64 z18), (5, [], .bool (decide (n_ < 0))), (6, [], .pointer (some ⟨b23, 0, none⟩)), (7, [], .pointer (some ⟨b26, 0, none⟩)), (8, [], .func (.func 24) ⟨[]⟩ ⟨[.pointer (some ⟨b26, 0, none⟩), .pointer (some ⟨b23, 0, none⟩)]⟩), (9, [], .int .i64 (w64 (Int.tdiv v38 10))), (26, [], .int .i64 v39)] H64 rfl rfl rfl rfl (o_callx H64 rfl rfl (fixed_Write_1_ok (b_u0 := b26) (b_u1 := b23) _ _ _ _ hy65 _ _ hd)) (fun _ => rfl) fun _ wd66 v H67 hq => ?_
                  clear H64 hd
                  obtain ⟨rfl, hq⟩ := hq
                  replace hS : SH M X w [Ent.blk b26 [.int .i64 y65.1], Ent.row .u8 b23 y65.2 (20 : Int)] _ := hS.join [0, 1] [] rfl rfl hq
                  clear hq
                  refine wl_end rfl ?_
                  obtain rfl := someE hm
                  exact ⟨Fr.keep (ks := [0, 5, 6, 7, 8, 26, 9]) H67 (by kernel_rfl), hS⟩
                · replace hm := bF hc hm
                  refine w_skip ?_
                  obtain rfl := someE hm
                  exact ⟨Fr.keep (ks := [0, 5, 6, 7, 8, 26, 9]) H62 (by kernel_rfl), hS⟩
            · rintro _ wd71 ⟨H, hS⟩
              refine w_reg [] [0, 5, 6, 7, 8, 9, 26] [(0, [], .int .i64 z18), (5, [], .bool (decide (n_ < 0))), (6, [], .pointer (some ⟨b23, 0, none⟩)), (7, [], .pointer (some ⟨b26, 0, none⟩)), (8, [], .func (.func 24) ⟨[]⟩ ⟨[.pointer (some ⟨b26, 0, none⟩), .pointer (some ⟨b23, 0, none⟩)]⟩), (9, [], .int .i64 z44.1), (26, [], .int .i64 (w64 (v39 + 1)))] [] H (by kernel_rfl) trivial fun _ wd69 H70 hb => ?_
              clear H
              replace hS := hS.below hb
              clear hb
              exact ⟨_, Nat.lt_succ_self _, z44.1, w64 (v39 + 1), z44.2.1, z44.2.2, hm, Fr.keep (ks := [0, 5, 6, 7, 8, 9, 26]) H70 (by kernel_rfl), hS⟩
          · replace hm := bF hc hm
            refine w_exit rfl ?_
            obtain rfl := someE hm
            exact ⟨Fr.keep (ks := [0, 5, 6, 7, 8]) H43 (by kernel_rfl), hS⟩
      · rintro _ wd102 ⟨H, hS⟩
        obtain ⟨z73, hz, hm⟩ := bindE hm
        refine w_cut (fun a' w' => Fr 71 [(5, [], .bool (decide (n_ < 0))), (6, [], .pointer (some ⟨b23, 0, none⟩)), (7, [], .pointer (some ⟨b26, 0, none⟩)), (8, [], .func (.func 24) ⟨[]⟩ ⟨[.pointer (some ⟨b26, 0, none⟩), .pointer (some ⟨b23, 0, none⟩)]⟩)] a' ∧ SH M X w [Ent.blk b26 [.int .i64 z73.1], Ent.row .u8 b23 z73.2 (20 : Int)] w') ?_ ?_
        · replace hm := hz
          refine s_reg [] [0, 5, 6, 7, 8] [(0, [], .int .i64 (w64 (Int.tdiv z18 1000))), (5, [], .bool (decide (n_ < 0))), (6, [], .pointer (some ⟨b23, 0, none⟩)), (7, [], .pointer (some ⟨b26, 0, none⟩)), (8, [], .func (.func 24) ⟨[]⟩ ⟨[.pointer (some ⟨b26, 0, none⟩), .pointer (some ⟨b23, 0, none⟩)]⟩)] [fun _ => (1000 : Int) ≠ 0] H (by kernel_rfl) ⟨(by show (1000 : Int) ≠ 0; decide), trivial⟩ fun _ wd74 H75 hb => ?_
          clear H
          replace hS := hS.below hb
          clear hb
          refine w_block ?_
          refine w_loop (fun kk a' w' => ∃ (v76 : Int) (v77 : Int) (v78 : List Int), fixed_Write_L2 m  kk v76 v77 v78 = some _ ∧ Fr 71 [(5, [], .bool (decide (n_ < 0))), (6, [], .pointer (some ⟨b23, 0, none⟩)), (7, [], .pointer (some ⟨b26, 0, none⟩)), (8, [], .func (.func 24) ⟨[]⟩ ⟨[.pointer (some ⟨b26, 0, none⟩), .pointer (some ⟨b23, 0, none⟩)]⟩), (0, [], .int .i64 v76)] a' ∧ SH M X w [Ent.blk b26 [.int .i64 v77], Ent.row .u8 b23 v78 (20 : Int)] w') ⟨_, w64 (Int.tdiv z18 1000), z35.1, z35.2, hm, Fr.keep (ks := [5, 6, 7, 8, 0]) H75 (by kernel_rfl), hS⟩ ?_
          clear hm H75 hS
          rintro kk _ wd88 ⟨v76, v77, v78, hm, H, hS⟩
          cases kk with
          | zero => exact noneE hm
          | succ kk =>
            rw [fixed_Write_L2] at hm
            refine w_seq ?_
            refine w_block ?_
            refine w_seq ?_
            refine wl_start ?_
            refine wl_batch 0 5 [] [0, 5, 6, 7, 8, 57, 61] [(0, [], .int .i64 v76), (5, [], .bool (decide (n_ < 0))), (6, [], .pointer (some ⟨b23, 0, none⟩)), (7, [], .pointer (some ⟨b26, 0, none⟩)), (8, [], .func (.func 24) ⟨[]⟩ ⟨[.pointer (some ⟨b26, 0, none⟩), .pointer (some ⟨b23, 0, none⟩)]⟩), (57, [], .func (.func 24) ⟨[]⟩ ⟨[.pointer (some ⟨b26, 0, none⟩), .pointer (some ⟨b23, 0, none⟩)]⟩), (61, [], .int .u8 (wu8 (w64 (48 + (Int.tmod v76 10)))))] [fun _ => (10 : Int) ≠ 0] H (by decide) (by kernel_rfl) ⟨(by show (10 : Int) ≠ 0; decide), trivial⟩ fun _ wd79 H80 hb => ?_
            clear H
            replace hS := hS.below hb
            clear hb
            obtain ⟨y81, hy81, hm⟩ := bindE hm
            have hd : S0 (AvL M []) [Ent.blk b26 [.int .i64 v77], Ent.row .u8 b23 v78 (20 : Int)] _ := hS.hand [0, 1] [] rfl rfl
            refine m_stp [62, 0, 5, 6, 7, 8] [(0, [], .int .i64 v76), (5, [], .bool (decide (n_ < 0))), (6, [], .pointer (some ⟨b23, 0, none⟩)), (7, [], .pointer (some ⟨b26, 0, none⟩)), (8, [], .func (.func 24) ⟨[]⟩ ⟨[.pointer (some ⟨b26, 0, none⟩), .pointer (some ⟨b23, 0, none⟩)]⟩)] H80 rfl rfl rfl rfl (o_callx H80 rfl rfl (fixed_Write_1_ok (b_u0 := b26) (b_u1 := b23) _ _ _ _ hy81 _ _ hd)) (fun _ => rfl) fun _ wd82 v H83 hq => ?_
            clear H80 hd
            obtain ⟨rfl, hq⟩ := hq
            replace hS : SH M X w [Ent.blk b26 [.int .i64 y81.1], Ent.row .u8 b23 y81.2 (20 : Int)] _ := hS.join [0, 1] [] rfl rfl hq
            clear hq
            refine wl_end rfl ?_
            refine s_reg [] [0, 5, 6, 7, 8, 64] [(0, [], .int .i64 v76), (5, [], .bool (decide (n_ < 0))), (6, [], .pointer (some ⟨b23, 0, none⟩)), (7, [], .pointer (some ⟨b26, 0, none⟩)), (8, [], .func (.func 24) ⟨[]⟩ ⟨[.pointer (some ⟨b26, 0, none⟩), .pointer (some ⟨b23, 0, none⟩)]⟩), (64, [], .bool (decide (v76 < 10)))] [] H83 (by kernel_rfl) trivial fun _ wd84 H85 hb => ?_
            clear H83
            replace hS := hS.below hb
            clear hb
            refine w_if H85 rfl (fun hc => ?_) (fun hc => ?_)
            · replace hm := bT hc hm
              refine w_exit rfl ?_
              obtain rfl := someE hm
              exact ⟨Fr.keep (ks := [5, 6, 7, 8]) H85 (by kernel_rfl), hS⟩
            · replace hm := bF hc hm
              refine w_skip ?_
              refine w_reg [] [0, 5, 6, 7, 8] [(0, [], .int .i64 (w64 (Int.tdiv v76 10))), (5, [], .bool (decide (n_ < 0))), (6, [], .pointer (some ⟨b23, 0, none⟩)), (7, [], .pointer (some ⟨b26, 0, none⟩)), (8, [], .func (.func 24) ⟨[]⟩ ⟨[.pointer (some ⟨b26, 0, none⟩), .pointer (some ⟨b23, 0, none⟩)]⟩)] [fun _ => (10 : Int) ≠ 0] H85 (by kernel_rfl) ⟨(by show (10 : Int) ≠ 0; decide), trivial⟩ fun _ wd86 H87 hb => ?_
              clear H85
              replace hS := hS.below hb
              clear hb
              exact ⟨_, Nat.lt_succ_self _, w64 (Int.tdiv v76 10), y81.1, y81.2, hm, Fr.keep (ks := [5, 6, 7, 8, 0]) H87 (by kernel_rfl), hS⟩
        · rintro _ wd101 ⟨H, hS⟩
          obtain ⟨z89, hz, hm⟩ := bindE hm
          refine w_cut (fun a' w' => Fr 71 [(6, [], .pointer (some ⟨b23, 0, none⟩)), (7, [], .pointer (some ⟨b26, 0, none⟩))] a' ∧ SH M X w [Ent.blk b26 [.int .i64 z89.1], Ent.row .u8 b23 z89.2 (20 : Int)] w') ?_ ?_
          · replace hm := hz
            refine s_reg [] [6, 7, 8, 65] [(6, [], .pointer (some ⟨b23, 0, none⟩)), (7, [], .pointer (some ⟨b26, 0, none⟩)), (8, [], .func (.func 24) ⟨[]⟩ ⟨[.pointer (some ⟨b26, 0, none⟩), .pointer (some ⟨b23, 0, none⟩)]⟩), (65, [], .bool (decide (n_ < 0)))] [] H (by kernel_rfl) trivial fun _ wd90 H91 hb => ?_
            clear H
            replace hS := hS.below hb
            clear hb
            refine w_if H91 rfl (fun hc => ?_) (fun hc => ?_)
            · replace hm := bT hc hm
              refine wl_start ?_
              refine wl_batch 0 1 [] [6, 7, 66] [(6, [], .pointer (some ⟨b23, 0, none⟩)), (7, [], .pointer (some ⟨b26, 0, none⟩)), (66, [], .func (.func 24) ⟨[]⟩ ⟨[.pointer (some ⟨b26, 0, none⟩), .pointer (some ⟨b23, 0, none⟩)]⟩)] [] H91 (by decide) (by kernel_rfl) trivial fun _ wd92 H93 hb => ?_
              clear H91
              replace hS := hS.below hb
              clear hb
              obtain ⟨y94, hy94, hm⟩ := bindE hm
              have hd : S0 (AvL M []) [Ent.blk b26 [.int .i64 z73.1], Ent.row .u8 b23 z73.2 (20 : Int)] _ := hS.hand [0, 1] [] rfl rfl
              refine m_stp [67, 6, 7] [(6, [], .pointer (some ⟨b23, 0, none⟩)), (7, [], .pointer (some ⟨b26, 0, none⟩))] H93 rfl rfl rfl rfl (o_callx H93 rfl rfl (fixed_Write_1_ok (b_u0 := b26) (b_u1 := b23) _ _ _ _ hy94 _ _ hd)) (fun _ => rfl) fun _ wd95 v H96 hq => ?_
              clear H93 hd
              obtain ⟨rfl, hq⟩ := hq
              replace hS : SH M X w [Ent.blk b26 [.int .i64 y94.1], Ent.row .u8 b23 y94.2 (20 : Int)] _ := hS.join [0, 1] [] rfl rfl hq
              clear hq
              refine wl_end rfl ?_
              obtain rfl := someE hm
              exact ⟨Fr.keep (ks := [6, 7]) H96 (by kernel_rfl), hS⟩
            · replace hm := bF hc hm
              refine w_skip ?_
              obtain rfl := someE hm
              exact ⟨Fr.keep (ks := [6, 7]) H91 (by kernel_rfl), hS⟩
          · rintro _ wd100 ⟨H, hS⟩
            obtain ⟨ho97, hm⟩ := chkE hm
            refine s_reg [(.int .i64 z89.1), (.string ⟨⟨toB (z89.2.drop (z89.1).toNat)⟩⟩)] [2, 3] [(2, [], .string ⟨⟨toB (z89.2.drop (z89.1).toNat)⟩⟩), (3, [], .int .i64 0)] [fun wz => V.at1 ⟨b26, 0, none⟩ (.int .i64 z89.1) wz, fun _ => 0 ≤ z89.1 ∧ z89.1 < (20 : Int), fun wz => ∀ w', Below wz.heap.size wz w' → (convert 43 9 (.slice (some ⟨b23, 0 + (z89.1).toNat * 1, none⟩) (20 - (z89.1).toNat) (20 - (z89.1).toNat))).run Tryd.prog w' = .ok (.string ⟨⟨toB (z89.2.drop (z89.1).toNat)⟩⟩) w'] H (by kernel_rfl) ⟨((hS.bk 0 rfl).at1 rfl), ho97, (conv_rowd (E := 5) (by kernel_rfl) (by kernel_rfl) (by kernel_rfl) (hS.rw 1 rfl).1 (hS.rw 1 rfl).2), trivial⟩ fun _ wd98 H99 hb => ?_
            clear H
            replace hS := hS.below hb
            clear hb
            replace hS : SH M X w [] _ := hS.sel [] rfl
            refine w_ret ?_
            obtain rfl := someE hm
            exact retR2 H99 rfl rfl rfl ⟨_, rfl, rfl, (hS.sel [] rfl)⟩
theorem fixed_Write_ok  (m : Nat) (n_ : Int) (r : Str × Int) (hm : fixed_Write m n_ = some r) : Ret Tryd.prog 8 ⟨[.int .i64 n_]⟩ (.tuple ⟨[.string ⟨⟨r.1⟩⟩, .int .i64 r.2]⟩) := retP_of (Tryd.call8 _) (fun w h => fixed_Write_w F0 m   n_ r hm w h)

def r06_Is (n_ : Int) : Bool :=
  lt (cond (decide ((-1000000000000) ≤ n_)) (decide (n_ ≤ 1000000000000)) false) fun x3 =>
  x3
theorem r06_Is_w  (M : Av) (n_ : Int) (r : Bool) (hm : r06_Is n_ = r) (w : World) (hS : S0 M [] w) : Calls Tryd.prog 14 ⟨[.int .i64 n_]⟩ w (fun e w' => ∃ v, e = .returned v ∧ v = .bool r ∧ SH M (fpl []) w [] w') := by
  rw [r06_Is] at hm
  have hS0 : SH M (fpl []) w [] w := hS
  generalize hX : fpl [] = X at hS0 ⊢
  clear hS hX
  have hS := hS0
  clear hS0
  refine calls_entryP Tryd.func14 rfl Tryd.ntmps14 rfl fun _ H => ?_
  refine s_reg [] [0] [(0, [], .int .i64 n_)] [] H (by kernel_rfl) trivial fun _ wd1 H2 hb => ?_
  clear H
  replace hS := hS.below hb
  clear hb
  obtain ⟨x3, hx3, hm⟩ := letE hm
  refine s_reg [] [2] [(2, [], .bool x3)] [] H2 (by subst hx3; kernel_rfl) trivial fun _ wd4 H5 hb => ?_
  clear H2
  replace hS := hS.below hb
  clear hb
  refine w_ret ?_
  subst hm
  exact retR1 H5 rfl rfl ⟨_, rfl, rfl, (hS.sel [] rfl)⟩
theorem r06_Is_ok  (n_ : Int) : Ret Tryd.prog 14 ⟨[.int .i64 n_]⟩ (.bool (r06_Is n_)) := retP_of (Tryd.call14 _) (fun w h => r06_Is_w F0   n_ _ rfl w h)

def r06_digits_S (rec_ : Int → Option (Str)) : Prop := ∀  (M : Av) (n_ : Int) (r : Str), rec_ n_ = some r → ∀ w, S0 M [] w → Calls Tryd.prog 35 ⟨[.int .i64 n_]⟩ w (fun e w' => ∃ v, e = .returned v ∧ v = .string ⟨⟨r⟩⟩ ∧ SH M (fpl []) w [] w')
def r06_digits_r (m : Nat) : Nat → Int → Option (Str)
  | 0, _ => none
  | k + 1, n_ =>
    lt (toB ([wu8 (w64 (48 + (Int.tmod n_ 10)))] : List Int)) fun x9 =>
    cond (decide (n_ < 10)) (
    some x9) (
    Option.bind ((r06_digits_r m k) (w64 (Int.tdiv n_ 10))) fun y16 =>
    chk (ln y16 + ln x9 ≤ 9223372036854775807) <|
    some (y16 ++ x9))
theorem r06_digits_w (m : Nat) : ∀ (k : Nat), r06_digits_S (r06_digits_r m  k) := by
  intro k
  induction k with
  | zero => intro  M n_ r hm; exact noneE hm
  | succ k ih =>
    intro  M n_ r hm w hS
    rw [r06_digits_r] at hm
    have hS0 : SH M (fpl []) w [] w := hS
    generalize hX : fpl [] = X at hS0 ⊢
    clear hS hX
    have hS := hS0
    clear hS0
    refine calls_entryP Tryd.func35 rfl Tryd.ntmps35 rfl fun _ H => ?_
    refine s_reg [] [0] [(0, [], .int .i64 n_)] [] H (by kernel_rfl) trivial fun _ wd1 H2 hb => ?_
    clear H
    replace hS := hS.below hb
    clear hb
    refine w_seq ?_
    refine wl_start ?_
    refine wl_batch 0 4 [] [0, 7] [(0, [], .int .i64 n_), (7, [], .int .u8 (wu8 (w64 (48 + (Int.tmod n_ 10)))))] [fun _ => (10 : Int) ≠ 0] H2 (by decide) (by kernel_rfl) ⟨(by show (10 : Int) ≠ 0; decide), trivial⟩ fun _ wd3 H4 hb => ?_
    clear H2
    replace hS := hS.below hb
    clear hb
    have hd : S0 (AvL M []) [] _ := hS.hand [] [] rfl rfl
    refine m_stp [8, 0] [(0, [], .int .i64 n_)] H4 rfl rfl rfl rfl (o_lit (T := (tI .u8)) (E := 5) (zv := .int .u8 0) [.int .u8 (wu8 (w64 (48 + (Int.tmod n_ 10))))] ([wu8 (w64 (48 + (Int.tmod n_ 10)))] : List Int) [gL []] _ H4 hd rfl (by kernel_rfl) (by kernel_rfl) (by kernel_rfl) (by kernel_rfl) (by kernel_rfl) (by kernel_rfl) (by kernel_rfl) rfl (InnL.cons trivial InnL.nil)) (fun _ => rfl) fun _ wd7 v H8 hq => ?_
    clear H4 hd
    obtain ⟨g5, rfl, hq⟩ := hq
    replace hS : SH M X w [Ent.own 5 (tI .u8) ([wu8 (w64 (48 + (Int.tmod n_ 10)))] : List Int) g5] _ := hS.join [] [] rfl rfl hq
    clear hq
    obtain ⟨x9, hx9, hm⟩ := letE hm
    refine wl_batch 5 7 [(.string ⟨⟨toB ([wu8 (w64 (48 + (Int.tmod n_ 10)))] : List Int)⟩⟩)] [0, 3] [(0, [], .int .i64 n_), (3, [], .string ⟨⟨x9⟩⟩)] [fun wz => ∀ w', Below wz.heap.size wz w' → (convert 43 9 (.slice g5.a 1 g5.c)).run Tryd.prog w' = .ok (.string ⟨⟨toB ([wu8 (w64 (48 + (Int.tmod n_ 10)))] : List Int)⟩⟩) w'] H8 (by decide) (by subst hx9; kernel_rfl) ⟨(conv_slG (E := 5) (by kernel_rfl) (by kernel_rfl) (by kernel_rfl) (hS.osl 0 rfl)), trivial⟩ fun _ wd10 H11 hb => ?_
    clear H8
    replace hS := hS.below hb
    clear hb
    refine wl_end rfl ?_
    replace hS : SH M X w [] _ := hS.sel [] rfl
    refine w_seq ?_
    refine s_reg [] [0, 3, 11] [(0, [], .int .i64 n_), (3, [], .string ⟨⟨x9⟩⟩), (11, [], .bool (decide (n_ < 10)))] [] H11 (by kernel_rfl) trivial fun _ wd12 H13 hb => ?_
    clear H11
    replace hS := hS.below hb
    clear hb
    refine w_if H13 rfl (fun hc => ?_) (fun hc => ?_)
    · replace hm := bT hc hm
      refine s_reg [] [2] [(2, [], .string ⟨⟨x9⟩⟩)] [] H13 (by kernel_rfl) trivial fun _ wd14 H15 hb => ?_
      clear H13
      replace hS := hS.below hb
      clear hb
      refine w_ret ?_
      obtain rfl := someE hm
      exact retR1 H15 rfl rfl ⟨_, rfl, rfl, (hS.sel [] rfl)⟩
    · replace hm := bF hc hm
      refine w_skip ?_
      obtain ⟨y16, hy16, hm⟩ := bindE hm
      obtain ⟨ho17, hm⟩ := chkE hm
      refine s_reg [(.string ⟨⟨y16⟩⟩)] [2] [(2, [], .string ⟨⟨y16 ++ x9⟩⟩)] [fun _ => (10 : Int) ≠ 0, fun wz => RetB Tryd.prog 35 ⟨[.int .i64 (w64 (Int.tdiv n_ 10))]⟩ (.string ⟨⟨y16⟩⟩) wz, fun _ => ln y16 + ln x9 ≤ 9223372036854775807] H13 (by kernel_rfl) ⟨(by show (10 : Int) ≠ 0; decide), (retB_of s0nil (Tryd.call35 _) (fun w' h' => ih  F0 _ _ hy16 w' h')), ho17, trivial⟩ fun _ wd18 H19 hb => ?_
      clear H13
      replace hS := hS.below hb
      clear hb
      refine w_ret ?_
      obtain rfl := someE hm
      exact retR1 H19 rfl rfl ⟨_, rfl, rfl, (hS.sel [] rfl)⟩
def r06_digits (m : Nat) (n_ : Int) : Option (Str) := r06_digits_r m  m n_
theorem r06_digits_ok  (m : Nat) (n_ : Int) (r : Str) (hm : r06_digits m n_ = some r) : Ret Tryd.prog 35 ⟨[.int .i64 n_]⟩ (.string ⟨⟨r⟩⟩) := retP_of (Tryd.call35 _) (fun w h => r06_digits_w m   m  F0 n_ r hm w h)

def r06_Text_S (rec_ : Int → Option (Str)) : Prop := ∀  (M : Av) (n_ : Int) (r : Str), rec_ n_ = some r → ∀ w, S0 M [] w → Calls Tryd.prog 25 ⟨[.int .i64 n_]⟩ w (fun e w' => ∃ v, e = .returned v ∧ v = .string ⟨⟨r⟩⟩ ∧ SH M (fpl []) w [] w')
def r06_Text_L1 (m : Nat)  : Nat → Str → Int → Int → Option (Str)
  | 0, _, _, _ => none
  | kk + 1, v24, v25, v26 =>
    cond (decide (0 < v25)) (
    chk (v26 ≠ 0) <|
    Option.bind (r06_digits m (w64 (Int.tdiv v25 v26))) fun y30 =>
    chk (ln v24 + ln y30 ≤ 9223372036854775807) <|
    r06_Text_L1 m  kk (v24 ++ y30) (Int.tmod v25 v26) (w64 (Int.tdiv v26 10))) (
    some v24)
def r06_Text_r (m : Nat) : Nat → Int → Option (Str)
  | 0, _ => none
  | k + 1, n_ =>
    cond (decide (n_ < 0)) (
    Option.bind ((r06_Text_r m k) (w64 (0 - n_))) fun y5 =>
    chk (ln [45] + ln y5 ≤ 9223372036854775807) <|
    some ([45] ++ y5)) (
    Option.bind (r06_digits m (w64 (Int.tdiv n_ 1000))) fun y9 =>
    cond ((Int.tmod n_ 1000) == 0) (
    some y9) (
    chk (ln y9 + ln [46] ≤ 9223372036854775807) <|
    Option.bind (
    r06_Text_L1 m  m (y9 ++ [46]) (Int.tmod n_ 1000) 100) fun (z21 : Str) =>
    some z21))
theorem r06_Text_w (m : Nat) : ∀ (k : Nat), r06_Text_S (r06_Text_r m  k) := by
  intro k
  induction k with
  | zero => intro  M n_ r hm; exact noneE hm
  | succ k ih =>
    intro  M n_ r hm w hS
    rw [r06_Text_r] at hm
    have hS0 : SH M (fpl []) w [] w := hS
    generalize hX : fpl [] = X at hS0 ⊢
    clear hS hX
    have hS := hS0
    clear hS0
    refine calls_entryP Tryd.func25 rfl Tryd.ntmps25 rfl fun _ H => ?_
    refine s_reg [] [0] [(0, [], .int .i64 n_)] [] H (by kernel_rfl) trivial fun _ wd1 H2 hb => ?_
    clear H
    replace hS := hS.below hb
    clear hb
    refine w_seq ?_
    refine s_reg [] [0, 7] [(0, [], .int .i64 n_), (7, [], .bool (decide (n_ < 0)))] [] H2 (by kernel_rfl) trivial fun _ wd3 H4 hb => ?_
    clear H2
    replace hS := hS.below hb
    clear hb
    refine w_if H4 rfl (fun hc => ?_) (fun hc => ?_)
    · replace hm := bT hc hm
      obtain ⟨y5, hy5, hm⟩ := bindE hm
      obtain ⟨ho6, hm⟩ := chkE hm
      refine s_reg [(.string ⟨⟨y5⟩⟩)] [2] [(2, [], .string ⟨⟨[45] ++ y5⟩⟩)] [fun wz => RetB Tryd.prog 25 ⟨[.int .i64 (w64 (0 - n_))]⟩ (.string ⟨⟨y5⟩⟩) wz, fun _ => ln [45] + ln y5 ≤ 9223372036854775807] H4 (by kernel_rfl) ⟨(retB_of s0nil (Tryd.call25 _) (fun w' h' => ih  F0 _ _ hy5 w' h')), ho6, trivial⟩ fun _ wd7 H8 hb => ?_
      clear H4
      replace hS := hS.below hb
      clear hb
      refine w_ret ?_
      obtain rfl := someE hm
      exact retR1 H8 rfl rfl ⟨_, rfl, rfl, (hS.sel [] rfl)⟩
    · replace hm := bF hc hm
      refine w_skip ?_
      obtain ⟨y9, hy9, hm⟩ := bindE hm
      refine s_reg [(.string ⟨⟨y9⟩⟩)] [0, 3] [(0, [], .int .i64 n_), (3, [], .string ⟨⟨y9⟩⟩)] [fun _ => (1000 : Int) ≠ 0, fun wz => RetB Tryd.prog 35 ⟨[.int .i64 (w64 (Int.tdiv n_ 1000))]⟩ (.string ⟨⟨y9⟩⟩) wz] H4 (by kernel_rfl) ⟨(by show (1000 : Int) ≠ 0; decide), ((r06_digits_ok m _ _ hy9).b), trivial⟩ fun _ wd10 H11 hb => ?_
      clear H4
      replace hS := hS.below hb
      clear hb
      refine s_reg [] [3, 4] [(3, [], .string ⟨⟨y9⟩⟩), (4, [], .int .i64 (Int.tmod n_ 1000))] [fun _ => (1000 : Int) ≠ 0] H11 (by kernel_rfl) ⟨(by show (1000 : Int) ≠ 0; decide), trivial⟩ fun _ wd12 H13 hb => ?_
      clear H11
      replace hS := hS.below hb
      clear hb
      refine w_seq ?_
      refine s_reg [] [3, 4, 18] [(3, [], .string ⟨⟨y9⟩⟩), (4, [], .int .i64 (Int.tmod n_ 1000)), (18, [], .bool ((Int.tmod n_ 1000) == 0))] [] H13 (by kernel_rfl) trivial fun _ wd14 H15 hb => ?_
      clear H13
      replace hS := hS.below hb
      clear hb
      refine w_if H15 rfl (fun hc => ?_) (fun hc => ?_)
      · replace hm := bT hc hm
        refine s_reg [] [2] [(2, [], .string ⟨⟨y9⟩⟩)] [] H15 (by kernel_rfl) trivial fun _ wd16 H17 hb => ?_
        clear H15
        replace hS := hS.below hb
        clear hb
        refine w_ret ?_
        obtain rfl := someE hm
        exact retR1 H17 rfl rfl ⟨_, rfl, rfl, (hS.sel [] rfl)⟩
      · replace hm := bF hc hm
        refine w_skip ?_
        obtain ⟨ho18, hm⟩ := chkE hm
        refine s_reg [] [3, 4] [(3, [], .string ⟨⟨y9 ++ [46]⟩⟩), (4, [], .int .i64 (Int.tmod n_ 1000))] [fun _ => ln y9 + ln [46] ≤ 9223372036854775807] H15 (by kernel_rfl) ⟨ho18, trivial⟩ fun _ wd19 H20 hb => ?_
        clear H15
        replace hS := hS.below hb
        clear hb
        obtain ⟨z21, hz, hm⟩ := bindE hm
        refine w_cut (fun a' w' => Fr 36 [(3, [], .string ⟨⟨z21⟩⟩)] a' ∧ SH M X w [] w') ?_ ?_
        · replace hm := hz
          refine s_reg [] [3, 4, 5] [(3, [], .string ⟨⟨y9 ++ [46]⟩⟩), (4, [], .int .i64 (Int.tmod n_ 1000)), (5, [], .int .i64 100)] [] H20 (by kernel_rfl) trivial fun _ wd22 H23 hb => ?_
          clear H20
          replace hS := hS.below hb
          clear hb
          refine w_block ?_
          refine w_loop (fun kk a' w' => ∃ (v24 : Str) (v25 : Int) (v26 : Int), r06_Text_L1 m  kk v24 v25 v26 = some _ ∧ Fr 36 [(3, [], .string ⟨⟨v24⟩⟩), (4, [], .int .i64 v25), (5, [], .int .i64 v26)] a' ∧ SH M X w [] w') ⟨_, y9 ++ [46], Int.tmod n_ 1000, 100, hm, Fr.keep (ks := [3, 4, 5]) H23 (by kernel_rfl), hS⟩ ?_
          clear hm H23 hS
          rintro kk _ wd38 ⟨v24, v25, v26, hm, H, hS⟩
          cases kk with
          | zero => exact noneE hm
          | succ kk =>
            rw [r06_Text_L1] at hm
            refine w_seq ?_
            refine s_reg [] [3, 4, 5, 23] [(3, [], .string ⟨⟨v24⟩⟩), (4, [], .int .i64 v25), (5, [], .int .i64 v26), (23, [], .bool (decide (0 < v25)))] [] H (by kernel_rfl) trivial fun _ wd27 H28 hb => ?_
            clear H
            replace hS := hS.below hb
            clear hb
            refine w_if H28 rfl (fun hc => ?_) (fun hc => ?_)
            · replace hm := bT hc hm
              refine w_skip ?_
              refine w_seq ?_
              refine w_block ?_
              obtain ⟨ho29, hm⟩ := chkE hm
              obtain ⟨y30, hy30, hm⟩ := bindE hm
              obtain ⟨ho31, hm⟩ := chkE hm
              refine s_reg [(.string ⟨⟨y30⟩⟩)] [3, 4, 5] [(3, [], .string ⟨⟨v24 ++ y30⟩⟩), (4, [], .int .i64 v25), (5, [], .int .i64 v26)] [fun _ => v26 ≠ 0, fun wz => RetB Tryd.prog 35 ⟨[.int .i64 (w64 (Int.tdiv v25 v26))]⟩ (.string ⟨⟨y30⟩⟩) wz, fun _ => ln v24 + ln y30 ≤ 9223372036854775807] H28 (by kernel_rfl) ⟨ho29, ((r06_digits_ok m _ _ hy30).b), ho31, trivial⟩ fun _ wd32 H33 hb => ?_
              clear H28
              replace hS := hS.below hb
              clear hb
              refine w_reg [] [3, 4, 5] [(3, [], .string ⟨⟨v24 ++ y30⟩⟩), (4, [], .int .i64 (Int.tmod v25 v26)), (5, [], .int .i64 v26)] [fun _ => v26 ≠ 0] H33 (by kernel_rfl) ⟨ho29, trivial⟩ fun _ wd34 H35 hb => ?_
              clear H33
              replace hS := hS.below hb
              clear hb
              refine w_reg [] [3, 4, 5] [(3, [], .string ⟨⟨v24 ++ y30⟩⟩), (4, [], .int .i64 (Int.tmod v25 v26)), (5, [], .int .i64 (w64 (Int.tdiv v26 10)))] [fun _ => (10 : Int) ≠ 0] H35 (by kernel_rfl) ⟨(by show (10 : Int) ≠ 0; decide), trivial⟩ fun _ wd36 H37 hb => ?_
              clear H35
              replace hS := hS.below hb
              clear hb
              exact ⟨_, Nat.lt_succ_self _, v24 ++ y30, Int.tmod v25 v26, w64 (Int.tdiv v26 10), hm, Fr.keep (ks := [3, 4, 5]) H37 (by kernel_rfl), hS⟩
            · replace hm := bF hc hm
              refine w_exit rfl ?_
              obtain rfl := someE hm
              exact ⟨Fr.keep (ks := [3]) H28 (by kernel_rfl), hS⟩
        · rintro _ wd41 ⟨H, hS⟩
          refine s_reg [] [2] [(2, [], .string ⟨⟨z21⟩⟩)] [] H (by kernel_rfl) trivial fun _ wd39 H40 hb => ?_
          clear H
          replace hS := hS.below hb
          clear hb
          refine w_ret ?_
          obtain rfl := someE hm
          exact retR1 H40 rfl rfl ⟨_, rfl, rfl, (hS.sel [] rfl)⟩
def r06_Text (m : Nat) (n_ : Int) : Option (Str) := r06_Text_r m  m n_
theorem r06_Text_ok  (m : Nat) (n_ : Int) (r : Str) (hm : r06_Text m n_ = some r) : Ret Tryd.prog 25 ⟨[.int .i64 n_]⟩ (.string ⟨⟨r⟩⟩) := retP_of (Tryd.call25 _) (fun w h => r06_Text_w m   m  F0 n_ r hm w h)

def r06_Write (m : Nat) (n_ : Int) : Option (Str × Int) :=
  cond (!(r06_Is n_)) (
  some ([], 8)) (
  Option.bind (r06_Text m n_) fun y7 =>
  some (y7, 0))
theorem r06_Write_w  (M : Av) (m : Nat) (n_ : Int) (r : Str × Int) (hm : r06_Write m n_ = some r) (w : World) (hS : S0 M [] w) : Calls Tryd.prog 9 ⟨[.int .i64 n_]⟩ w (fun e w' => ∃ v, e = .returned v ∧ v = .tuple ⟨[.string ⟨⟨r.1⟩⟩, .int .i64 r.2]⟩ ∧ SH M (fpl []) w [] w') := by
  rw [r06_Write] at hm
  have hS0 : SH M (fpl []) w [] w := hS
  generalize hX : fpl [] = X at hS0 ⊢
  clear hS hX
  have hS := hS0
  clear hS0
  refine calls_entryP Tryd.func9 rfl Tryd.ntmps9 rfl fun _ H => ?_
  refine s_reg [] [0] [(0, [], .int .i64 n_)] [] H (by kernel_rfl) trivial fun _ wd1 H2 hb => ?_
  clear H
  replace hS := hS.below hb
  clear hb
  refine w_seq ?_
  refine s_reg [(.bool (r06_Is n_))] [0, 6] [(0, [], .int .i64 n_), (6, [], .bool (!(r06_Is n_)))] [fun wz => RetB Tryd.prog 14 ⟨[.int .i64 n_]⟩ (.bool (r06_Is n_)) wz] H2 (by kernel_rfl) ⟨((r06_Is_ok _).b), trivial⟩ fun _ wd3 H4 hb => ?_
  clear H2
  replace hS := hS.below hb
  clear hb
  refine w_if H4 rfl (fun hc => ?_) (fun hc => ?_)
  · replace hm := bT hc hm
    refine s_reg [] [2, 3] [(2, [], .string ⟨⟨[]⟩⟩), (3, [], .int .i64 8)] [] H4 (by kernel_rfl) trivial fun _ wd5 H6 hb => ?_
    clear H4
    replace hS := hS.below hb
    clear hb
    refine w_ret ?_
    obtain rfl := someE hm
    exact retR2 H6 rfl rfl rfl ⟨_, rfl, rfl, (hS.sel [] rfl)⟩
  · replace hm := bF hc hm
    refine w_skip ?_
    obtain ⟨y7, hy7, hm⟩ := bindE hm
    refine s_reg [(.string ⟨⟨y7⟩⟩)] [2, 3] [(2, [], .string ⟨⟨y7⟩⟩), (3, [], .int .i64 0)] [fun wz => RetB Tryd.prog 25 ⟨[.int .i64 n_]⟩ (.string ⟨⟨y7⟩⟩) wz] H4 (by kernel_rfl) ⟨((r06_Text_ok m _ _ hy7).b), trivial⟩ fun _ wd8 H9 hb => ?_
    clear H4
    replace hS := hS.below hb
    clear hb
    refine w_ret ?_
    obtain rfl := someE hm
    exact retR2 H9 rfl rfl rfl ⟨_, rfl, rfl, (hS.sel [] rfl)⟩
theorem r06_Write_ok  (m : Nat) (n_ : Int) (r : Str × Int) (hm : r06_Write m n_ = some r) : Ret Tryd.prog 9 ⟨[.int .i64 n_]⟩ (.tuple ⟨[.string ⟨⟨r.1⟩⟩, .int .i64 r.2]⟩) := retP_of (Tryd.call9 _) (fun w h => r06_Write_w F0 m   n_ r hm w h)

def fixed_Whole (m : Nat) (n_ : Int) : Option (Int × Int) :=
  Option.bind (fixed_check m ([n_] : List Int)) fun y9 =>
  cond (y9 != 0) (
  some (0, y9)) (
  some (w64 (n_ - (Int.tmod n_ 1000)), 0))
theorem fixed_Whole_w  (M : Av) (m : Nat) (n_ : Int) (r : Int × Int) (hm : fixed_Whole m n_ = some r) (w : World) (hS : S0 M [] w) : Calls Tryd.prog 10 ⟨[.int .i64 n_]⟩ w (fun e w' => ∃ v, e = .returned v ∧ v = .tuple ⟨[.int .i64 r.1, .int .i64 r.2]⟩ ∧ SH M (fpl []) w [] w') := by
  rw [fixed_Whole] at hm
  have hS0 : SH M (fpl []) w [] w := hS
  generalize hX : fpl [] = X at hS0 ⊢
  clear hS hX
  have hS := hS0
  clear hS0
  refine calls_entryP Tryd.func10 rfl Tryd.ntmps10 rfl fun _ H => ?_
  refine s_reg [] [0] [(0, [], .int .i64 n_)] [] H (by kernel_rfl) trivial fun _ wd1 H2 hb => ?_
  clear H
  replace hS := hS.below hb
  clear hb
  refine w_seq ?_
  refine w_seq ?_
  refine wl_start ?_
  refine wl_batch 0 1 [] [0, 5] [(0, [], .int .i64 n_), (5, [], .int .i64 n_)] [] H2 (by decide) (by kernel_rfl) trivial fun _ wd3 H4 hb => ?_
  clear H2
  replace hS := hS.below hb
  clear hb
  have hd : S0 (AvL M []) [] _ := hS.hand [] [] rfl rfl
  refine m_stp [6, 0] [(0, [], .int .i64 n_)] H4 rfl rfl rfl rfl (o_lit (T := (tI .i64)) (E := 2) (zv := .int .i64 0) [.int .i64 n_] ([n_] : List Int) [gL []] _ H4 hd rfl (by kernel_rfl) (by kernel_rfl) (by kernel_rfl) (by kernel_rfl) (by kernel_rfl) (by kernel_rfl) (by kernel_rfl) rfl (InnL.cons trivial InnL.nil)) (fun _ => rfl) fun _ wd7 v H8 hq => ?_
  clear H4 hd
  obtain ⟨g5, rfl, hq⟩ := hq
  replace hS : SH M X w [Ent.own 2 (tI .i64) ([n_] : List Int) g5] _ := hS.join [] [] rfl rfl hq
  clear hq
  obtain ⟨y9, hy9, hm⟩ := bindE hm
  refine wl_batch 2 4 [(.int .i64 y9)] [0, 4] [(0, [], .int .i64 n_), (4, [], .int .i64 y9)] [fun wz => RetB Tryd.prog 23 ⟨[.slice g5.a 1 g5.c]⟩ (.int .i64 y9) wz] H8 (by decide) (by kernel_rfl) ⟨(fixed_check_ok (g_l_ := g5) m _ _ hy9 _ (s0im s0nil (hS.osl 0 rfl))), trivial⟩ fun _ wd10 H11 hb => ?_
  clear H8
  replace hS := hS.below hb
  clear hb
  refine wl_end rfl ?_
  replace hS : SH M X w [] _ := hS.sel [] rfl
  refine s_reg [] [0, 4, 9] [(0, [], .int .i64 n_), (4, [], .int .i64 y9), (9, [], .bool (y9 != 0))] [] H11 (by kernel_rfl) trivial fun _ wd12 H13 hb => ?_
  clear H11
  replace hS := hS.below hb
  clear hb
  refine w_if H13 rfl (fun hc => ?_) (fun hc => ?_)
  · replace hm := bT hc hm
    refine s_reg [] [2, 3] [(2, [], .int .i64 0), (3, [], .int .i64 y9)] [] H13 (by kernel_rfl) trivial fun _ wd14 H15 hb => ?_
    clear H13
    replace hS := hS.below hb
    clear hb
    refine w_ret ?_
    obtain rfl := someE hm
    exact retR2 H15 rfl rfl rfl ⟨_, rfl, rfl, (hS.sel [] rfl)⟩
  · replace hm := bF hc hm
    refine w_skip ?_
    refine s_reg [] [2, 3] [(2, [], .int .i64 (w64 (n_ - (Int.tmod n_ 1000)))), (3, [], .int .i64 0)] [fun _ => (1000 : Int) ≠ 0] H13 (by kernel_rfl) ⟨(by show (1000 : Int) ≠ 0; decide), trivial⟩ fun _ wd16 H17 hb => ?_
    clear H13
    replace hS := hS.below hb
    clear hb
    refine w_ret ?_
    obtain rfl := someE hm
    exact retR2 H17 rfl rfl rfl ⟨_, rfl, rfl, (hS.sel [] rfl)⟩
theorem fixed_Whole_ok  (m : Nat) (n_ : Int) (r : Int × Int) (hm : fixed_Whole m n_ = some r) : Ret Tryd.prog 10 ⟨[.int .i64 n_]⟩ (.tuple ⟨[.int .i64 r.1, .int .i64 r.2]⟩) := retP_of (Tryd.call10 _) (fun w h => fixed_Whole_w F0 m   n_ r hm w h)

def r06_Whole (n_ : Int) : Int × Int :=
  cond (!(r06_Is n_)) (
  (0, 8)) (
  (w64 ((w64 (Int.tdiv n_ 1000)) * 1000), 0))
theorem r06_Whole_w  (M : Av) (n_ : Int) (r : Int × Int) (hm : r06_Whole n_ = r) (w : World) (hS : S0 M [] w) : Calls Tryd.prog 11 ⟨[.int .i64 n_]⟩ w (fun e w' => ∃ v, e = .returned v ∧ v = .tuple ⟨[.int .i64 r.1, .int .i64 r.2]⟩ ∧ SH M (fpl []) w [] w') := by
  rw [r06_Whole] at hm
  have hS0 : SH M (fpl []) w [] w := hS
  generalize hX : fpl [] = X at hS0 ⊢
  clear hS hX
  have hS := hS0
  clear hS0
  refine calls_entryP Tryd.func11 rfl Tryd.ntmps11 rfl fun _ H => ?_
  refine s_reg [] [0] [(0, [], .int .i64 n_)] [] H (by kernel_rfl) trivial fun _ wd1 H2 hb => ?_
  clear H
  replace hS := hS.below hb
  clear hb
  refine w_seq ?_
  refine s_reg [(.bool (r06_Is n_))] [0, 6] [(0, [], .int .i64 n_), (6, [], .bool (!(r06_Is n_)))] [fun wz => RetB Tryd.prog 14 ⟨[.int .i64 n_]⟩ (.bool (r06_Is n_)) wz] H2 (by kernel_rfl) ⟨((r06_Is_ok _).b), trivial⟩ fun _ wd3 H4 hb => ?_
  clear H2
  replace hS := hS.below hb
  clear hb
  refine w_if H4 rfl (fun hc => ?_) (fun hc => ?_)
  · replace hm := bT hc hm
    refine s_reg [] [2, 3] [(2, [], .int .i64 0), (3, [], .int .i64 8)] [] H4 (by kernel_rfl) trivial fun _ wd5 H6 hb => ?_
    clear H4
    replace hS := hS.below hb
    clear hb
    refine w_ret ?_
    subst hm
    exact retR2 H6 rfl rfl rfl ⟨_, rfl, rfl, (hS.sel [] rfl)⟩
  · replace hm := bF hc hm
    refine w_skip ?_
    refine s_reg [] [2, 3] [(2, [], .int .i64 (w64 ((w64 (Int.tdiv n_ 1000)) * 1000))), (3, [], .int .i64 0)] [fun _ => (1000 : Int) ≠ 0] H4 (by kernel_rfl) ⟨(by show (1000 : Int) ≠ 0; decide), trivial⟩ fun _ wd7 H8 hb => ?_
    clear H4
    replace hS := hS.below hb
    clear hb
    refine w_ret ?_
    subst hm
    exact retR2 H8 rfl rfl rfl ⟨_, rfl, rfl, (hS.sel [] rfl)⟩
theorem r06_Whole_ok  (n_ : Int) : Ret Tryd.prog 11 ⟨[.int .i64 n_]⟩ (.tuple ⟨[.int .i64 (r06_Whole n_).1, .int .i64 (r06_Whole n_).2]⟩) := retP_of (Tryd.call11 _) (fun w h => r06_Whole_w F0   n_ _ rfl w h)

def fixed_Check (m : Nat) (n_ : Int) : Option (Int) :=
  Option.bind (fixed_check m ([n_] : List Int)) fun y9 =>
  some y9
theorem fixed_Check_w  (M : Av) (m : Nat) (n_ : Int) (r : Int) (hm : fixed_Check m n_ = some r) (w : World) (hS : S0 M [] w) : Calls Tryd.prog 12 ⟨[.int .i64 n_]⟩ w (fun e w' => ∃ v, e = .returned v ∧ v = .int .i64 r ∧ SH M (fpl []) w [] w') := by
  rw [fixed_Check] at hm
  have hS0 : SH M (fpl []) w [] w := hS
  generalize hX : fpl [] = X at hS0 ⊢
  clear hS hX
  have hS := hS0
  clear hS0
  refine calls_entryP Tryd.func12 rfl Tryd.ntmps12 rfl fun _ H => ?_
  refine s_reg [] [0] [(0, [], .int .i64 n_)] [] H (by kernel_rfl) trivial fun _ wd1 H2 hb => ?_
  clear H
  replace hS := hS.below hb
  clear hb
  refine w_seq ?_
  refine wl_start ?_
  refine wl_batch 0 1 [] [3] [(3, [], .int .i64 n_)] [] H2 (by decide) (by kernel_rfl) trivial fun _ wd3 H4 hb => ?_
  clear H2
  replace hS := hS.below hb
  clear hb
  have hd : S0 (AvL M []) [] _ := hS.hand [] [] rfl rfl
  refine m_stp [4] [] H4 rfl rfl rfl rfl (o_lit (T := (tI .i64)) (E := 2) (zv := .int .i64 0) [.int .i64 n_] ([n_] : List Int) [gL []] _ H4 hd rfl (by kernel_rfl) (by kernel_rfl) (by kernel_rfl) (by kernel_rfl) (by kernel_rfl) (by kernel_rfl) (by kernel_rfl) rfl (InnL.cons trivial InnL.nil)) (fun _ => rfl) fun _ wd7 v H8 hq => ?_
  clear H4 hd
  obtain ⟨g5, rfl, hq⟩ := hq
  replace hS : SH M X w [Ent.own 2 (tI .i64) ([n_] : List Int) g5] _ := hS.join [] [] rfl rfl hq
  clear hq
  obtain ⟨y9, hy9, hm⟩ := bindE hm
  refine wl_batch 2 4 [(.int .i64 y9)] [2] [(2, [], .int .i64 y9)] [fun wz => RetB Tryd.prog 23 ⟨[.slice g5.a 1 g5.c]⟩ (.int .i64 y9) wz] H8 (by decide) (by kernel_rfl) ⟨(fixed_check_ok (g_l_ := g5) m _ _ hy9 _ (s0im s0nil (hS.osl 0 rfl))), trivial⟩ fun _ wd10 H11 hb => ?_
  clear H8
  replace hS := hS.below hb
  clear hb
  refine wl_end rfl ?_
  replace hS : SH M X w [] _ := hS.sel [] rfl
  refine w_ret ?_
  obtain rfl := someE hm
  exact retR1 H11 rfl rfl ⟨_, rfl, rfl, (hS.sel [] rfl)⟩
theorem fixed_Check_ok  (m : Nat) (n_ : Int) (r : Int) (hm : fixed_Check m n_ = some r) : Ret Tryd.prog 12 ⟨[.int .i64 n_]⟩ (.int .i64 r) := retP_of (Tryd.call12 _) (fun w h => fixed_Check_w F0 m   n_ r hm w h)

def r06_Check (n_ : Int) : Int :=
  cond (!(r06_Is n_)) (
  8) (
  0)
theorem r06_Check_w  (M : Av) (n_ : Int) (r : Int) (hm : r06_Check n_ = r) (w : World) (hS : S0 M [] w) : Calls Tryd.prog 13 ⟨[.int .i64 n_]⟩ w (fun e w' => ∃ v, e = .returned v ∧ v = .int .i64 r ∧ SH M (fpl []) w [] w') := by
  rw [r06_Check] at hm
  have hS0 : SH M (fpl []) w [] w := hS
  generalize hX : fpl [] = X at hS0 ⊢
  clear hS hX
  have hS := hS0
  clear hS0
  refine calls_entryP Tryd.func13 rfl Tryd.ntmps13 rfl fun _ H => ?_
  refine s_reg [] [0] [(0, [], .int .i64 n_)] [] H (by kernel_rfl) trivial fun _ wd1 H2 hb => ?_
  clear H
  replace hS := hS.below hb
  clear hb
  refine w_seq ?_
  refine s_reg [(.bool (r06_Is n_))] [5] [(5, [], .bool (!(r06_Is n_)))] [fun wz => RetB Tryd.prog 14 ⟨[.int .i64 n_]⟩ (.bool (r06_Is n_)) wz] H2 (by kernel_rfl) ⟨((r06_Is_ok _).b), trivial⟩ fun _ wd3 H4 hb => ?_
  clear H2
  replace hS := hS.below hb
  clear hb
  refine w_if H4 rfl (fun hc => ?_) (fun hc => ?_)
  · replace hm := bT hc hm
    refine s_reg [] [2] [(2, [], .int .i64 8)] [] H4 (by kernel_rfl) trivial fun _ wd5 H6 hb => ?_
    clear H4
    replace hS := hS.below hb
    clear hb
    refine w_ret ?_
    subst hm
    exact retR1 H6 rfl rfl ⟨_, rfl, rfl, (hS.sel [] rfl)⟩
  · replace hm := bF hc hm
    refine w_skip ?_
    refine s_reg [] [2] [(2, [], .int .i64 0)] [] H4 (by kernel_rfl) trivial fun _ wd7 H8 hb => ?_
    clear H4
    replace hS := hS.below hb
    clear hb
    refine w_ret ?_
    subst hm
    exact retR1 H8 rfl rfl ⟨_, rfl, rfl, (hS.sel [] rfl)⟩
theorem r06_Check_ok  (n_ : Int) : Ret Tryd.prog 13 ⟨[.int .i64 n_]⟩ (.int .i64 (r06_Check n_)) := retP_of (Tryd.call13 _) (fun w h => r06_Check_w F0   n_ _ rfl w h)

def law06_FixedReads (m : Nat) (n_ : Int) (s : Str) : Option (Bool) :=
  lt (cond (decide (500 < (ln s))) (decide ((ln s) ≤ 4000)) false) fun x3 =>
  cond (cond x3 true (decide (4100 < (ln s)))) (
  some true) (
  Option.bind (fixed_Read m s) fun y8 =>
  Option.bind (r06_Read m s) fun y11 =>
  Option.bind (fixed_Write m n_) fun y14 =>
  Option.bind (r06_Write m n_) fun y17 =>
  Option.bind (fixed_Whole m n_) fun y20 =>
  lt (r06_Whole n_) fun y23 =>
  Option.bind (fixed_Check m n_) fun y26 =>
  lt (cond (y26 == (r06_Check n_)) (y8.1 == y11.1) false) fun x27 =>
  lt (cond (cond x27 (y8.2 == y11.2) false) (y14.1 == y17.1) false) fun x28 =>
  lt (cond (cond x28 (y14.2 == y17.2) false) (y20.1 == y23.1) false) fun x29 =>
  some (cond x29 (y20.2 == y23.2) false))
theorem law06_FixedReads_w  (M : Av) (m : Nat) (n_ : Int) (s : Str) (r : Bool) (hm : law06_FixedReads m n_ s = some r) (w : World) (hS : S0 M [] w) : Calls Tryd.prog 3 ⟨[.int .i64 n_, .string ⟨⟨s⟩⟩]⟩ w (fun e w' => ∃ v, e = .returned v ∧ v = .bool r ∧ SH M (fpl []) w [] w') := by
  rw [law06_FixedReads] at hm
  have hS0 : SH M (fpl []) w [] w := hS
  generalize hX : fpl [] = X at hS0 ⊢
  clear hS hX
  have hS := hS0
  clear hS0
  refine calls_entryP Tryd.func3 rfl Tryd.ntmps3 rfl fun _ H => ?_
  refine s_reg [] [0, 1] [(0, [], .int .i64 n_), (1, [], .string ⟨⟨s⟩⟩)] [] H (by kernel_rfl) trivial fun _ wd1 H2 hb => ?_
  clear H
  replace hS := hS.below hb
  clear hb
  refine w_seq ?_
  obtain ⟨x3, hx3, hm⟩ := letE hm
  refine s_reg [] [0, 1, 29] [(0, [], .int .i64 n_), (1, [], .string ⟨⟨s⟩⟩), (29, [], .bool (cond x3 true (decide (4100 < (ln s)))))] [] H2 (by subst hx3; kernel_rfl) trivial fun _ wd4 H5 hb => ?_
  clear H2
  replace hS := hS.below hb
  clear hb
  refine w_if H5 rfl (fun hc => ?_) (fun hc => ?_)
  · replace hm := bT hc hm
    refine s_reg [] [4] [(4, [], .bool true)] [] H5 (by kernel_rfl) trivial fun _ wd6 H7 hb => ?_
    clear H5
    replace hS := hS.below hb
    clear hb
    refine w_ret ?_
    obtain rfl := someE hm
    exact retR1 H7 rfl rfl ⟨_, rfl, rfl, (hS.sel [] rfl)⟩
  · replace hm := bF hc hm
    refine w_skip ?_
    obtain ⟨y8, hy8, hm⟩ := bindE hm
    refine s_reg [(.tuple ⟨[.int .i64 y8.1, .int .i64 y8.2]⟩)] [0, 1, 5, 6] [(0, [], .int .i64 n_), (1, [], .string ⟨⟨s⟩⟩), (5, [], .int .i64 y8.1), (6, [], .int .i64 y8.2)] [fun wz => RetB Tryd.prog 6 ⟨[.string ⟨⟨s⟩⟩]⟩ (.tuple ⟨[.int .i64 y8.1, .int .i64 y8.2]⟩) wz] H5 (by kernel_rfl) ⟨((fixed_Read_ok m _ _ hy8).b), trivial⟩ fun _ wd9 H10 hb => ?_
    clear H5
    replace hS := hS.below hb
    clear hb
    obtain ⟨y11, hy11, hm⟩ := bindE hm
    refine s_reg [(.tuple ⟨[.int .i64 y11.1, .int .i64 y11.2]⟩)] [0, 5, 6, 7, 8] [(0, [], .int .i64 n_), (5, [], .int .i64 y8.1), (6, [], .int .i64 y8.2), (7, [], .int .i64 y11.1), (8, [], .int .i64 y11.2)] [fun wz => RetB Tryd.prog 7 ⟨[.string ⟨⟨s⟩⟩]⟩ (.tuple ⟨[.int .i64 y11.1, .int .i64 y11.2]⟩) wz] H10 (by kernel_rfl) ⟨((r06_Read_ok m _ _ hy11).b), trivial⟩ fun _ wd12 H13 hb => ?_
    clear H10
    replace hS := hS.below hb
    clear hb
    obtain ⟨y14, hy14, hm⟩ := bindE hm
    refine s_reg [(.tuple ⟨[.string ⟨⟨y14.1⟩⟩, .int .i64 y14.2]⟩)] [0, 5, 6, 7, 8, 9, 10] [(0, [], .int .i64 n_), (5, [], .int .i64 y8.1), (6, [], .int .i64 y8.2), (7, [], .int .i64 y11.1), (8, [], .int .i64 y11.2), (9, [], .string ⟨⟨y14.1⟩⟩), (10, [], .int .i64 y14.2)] [fun wz => RetB Tryd.prog 8 ⟨[.int .i64 n_]⟩ (.tuple ⟨[.string ⟨⟨y14.1⟩⟩, .int .i64 y14.2]⟩) wz] H13 (by kernel_rfl) ⟨((fixed_Write_ok m _ _ hy14).b), trivial⟩ fun _ wd15 H16 hb => ?_
    clear H13
    replace hS := hS.below hb
    clear hb
    obtain ⟨y17, hy17, hm⟩ := bindE hm
    refine s_reg [(.tuple ⟨[.string ⟨⟨y17.1⟩⟩, .int .i64 y17.2]⟩)] [0, 5, 6, 7, 8, 9, 10, 11, 12] [(0, [], .int .i64 n_), (5, [], .int .i64 y8.1), (6, [], .int .i64 y8.2), (7, [], .int .i64 y11.1), (8, [], .int .i64 y11.2), (9, [], .string ⟨⟨y14.1⟩⟩), (10, [], .int .i64 y14.2), (11, [], .string ⟨⟨y17.1⟩⟩), (12, [], .int .i64 y17.2)] [fun wz => RetB Tryd.prog 9 ⟨[.int .i64 n_]⟩ (.tuple ⟨[.string ⟨⟨y17.1⟩⟩, .int .i64 y17.2]⟩) wz] H16 (by kernel_rfl) ⟨((r06_Write_ok m _ _ hy17).b), trivial⟩ fun _ wd18 H19 hb => ?_
    clear H16
    replace hS := hS.below hb
    clear hb
    obtain ⟨y20, hy20, hm⟩ := bindE hm
    refine s_reg [(.tuple ⟨[.int .i64 y20.1, .int .i64 y20.2]⟩)] [0, 5, 6, 7, 8, 9, 10, 11, 12, 13, 14] [(0, [], .int .i64 n_), (5, [], .int .i64 y8.1), (6, [], .int .i64 y8.2), (7, [], .int .i64 y11.1), (8, [], .int .i64 y11.2), (9, [], .string ⟨⟨y14.1⟩⟩), (10, [], .int .i64 y14.2), (11, [], .string ⟨⟨y17.1⟩⟩), (12, [], .int .i64 y17.2), (13, [], .int .i64 y20.1), (14, [], .int .i64 y20.2)] [fun wz => RetB Tryd.prog 10 ⟨[.int .i64 n_]⟩ (.tuple ⟨[.int .i64 y20.1, .int .i64 y20.2]⟩) wz] H19 (by kernel_rfl) ⟨((fixed_Whole_ok m _ _ hy20).b), trivial⟩ fun _ wd21 H22 hb => ?_
    clear H19
    replace hS := hS.below hb
    clear hb
    obtain ⟨y23, hy23, hm⟩ := letE hm
    refine s_reg [(.tuple ⟨[.int .i64 y23.1, .int .i64 y23.2]⟩)] [0, 5, 6, 7, 8, 9, 10, 11, 12, 13, 14, 15, 16] [(0, [], .int .i64 n_), (5, [], .int .i64 y8.1), (6, [], .int .i64 y8.2), (7, [], .int .i64 y11.1), (8, [], .int .i64 y11.2), (9, [], .string ⟨⟨y14.1⟩⟩), (10, [], .int .i64 y14.2), (11, [], .string ⟨⟨y17.1⟩⟩), (12, [], .int .i64 y17.2), (13, [], .int .i64 y20.1), (14, [], .int .i64 y20.2), (15, [], .int .i64 y23.1), (16, [], .int .i64 y23.2)] [fun wz => RetB Tryd.prog 11 ⟨[.int .i64 n_]⟩ (.tuple ⟨[.int .i64 y23.1, .int .i64 y23.2]⟩) wz] H22 (by subst hy23; kernel_rfl) ⟨((by rw [hy23]; exact (r06_Whole_ok _).b)), trivial⟩ fun _ wd24 H25 hb => ?_
    clear H22
    replace hS := hS.below hb
    clear hb
    obtain ⟨y26, hy26, hm⟩ := bindE hm
    obtain ⟨x27, hx27, hm⟩ := letE hm
    obtain ⟨x28, hx28, hm⟩ := letE hm
    obtain ⟨x29, hx29, hm⟩ := letE hm
    refine s_reg [(.int .i64 y26), (.int .i64 (r06_Check n_))] [4] [(4, [], .bool (cond x29 (y20.2 == y23.2) false))] [fun wz => RetB Tryd.prog 12 ⟨[.int .i64 n_]⟩ (.int .i64 y26) wz, fun wz => RetB Tryd.prog 13 ⟨[.int .i64 n_]⟩ (.int .i64 (r06_Check n_)) wz] H25 (by subst hx27 hx28 hx29; kernel_rfl) ⟨((fixed_Check_ok m _ _ hy26).b), ((r06_Check_ok _).b), trivial⟩ fun _ wd30 H31 hb => ?_
    clear H25
    replace hS := hS.below hb
    clear hb
    refine w_ret ?_
    obtain rfl := someE hm
    exact retR1 H31 rfl rfl ⟨_, rfl, rfl, (hS.sel [] rfl)⟩
theorem law06_FixedReads_ok  (m : Nat) (n_ : Int) (s : Str) (r : Bool) (hm : law06_FixedReads m n_ s = some r) : Ret Tryd.prog 3 ⟨[.int .i64 n_, .string ⟨⟨s⟩⟩]⟩ (.bool r) := retP_of (Tryd.call3 _) (fun w h => law06_FixedReads_w F0 m   n_ s r hm w h)

def fixed_hold (n_ : Int) : Int :=
  lt (if n_ < (-1000000000000) then (-1000000000000) else n_) fun x3 =>
  lt (if 1000000000000 < x3 then 1000000000000 else x3) fun x4 =>
  x4
theorem fixed_hold_w  (M : Av) (n_ : Int) (r : Int) (hm : fixed_hold n_ = r) (w : World) (hS : S0 M [] w) : Calls Tryd.prog 26 ⟨[.int .i64 n_]⟩ w (fun e w' => ∃ v, e = .returned v ∧ v = .int .i64 r ∧ SH M (fpl []) w [] w') := by
  rw [fixed_hold] at hm
  have hS0 : SH M (fpl []) w [] w := hS
  generalize hX : fpl [] = X at hS0 ⊢
  clear hS hX
  have hS := hS0
  clear hS0
  refine calls_entryP Tryd.func26 rfl Tryd.ntmps26 rfl fun _ H => ?_
  refine s_reg [] [0] [(0, [], .int .i64 n_)] [] H (by kernel_rfl) trivial fun _ wd1 H2 hb => ?_
  clear H
  replace hS := hS.below hb
  clear hb
  obtain ⟨x3, hx3, hm⟩ := letE hm
  obtain ⟨x4, hx4, hm⟩ := letE hm
  refine s_reg [] [2] [(2, [], .int .i64 x4)] [] H2 (by subst hx3 hx4; kernel_rfl) trivial fun _ wd5 H6 hb => ?_
  clear H2
  replace hS := hS.below hb
  clear hb
  refine w_ret ?_
  subst hm
  exact retR1 H6 rfl rfl ⟨_, rfl, rfl, (hS.sel [] rfl)⟩
theorem fixed_hold_ok  (n_ : Int) : Ret Tryd.prog 26 ⟨[.int .i64 n_]⟩ (.int .i64 (fixed_hold n_)) := retP_of (Tryd.call26 _) (fun w h => fixed_hold_w F0   n_ _ rfl w h)

def fixed_Sum_L1 (m : Nat) (l_ : List Int) : Nat → Int → Int → Option (Int)
  | 0, _, _ => none
  | kk + 1, v15, v16 =>
    cond (decide (v16 < (ln l_))) (
    chk (0 ≤ v16 ∧ v16 < ln l_) <|
    fixed_Sum_L1 m l_ kk (fixed_hold (w64 (v15 + (gi l_ v16)))) (w64 (v16 + 1))) (
    some v15)
def fixed_Sum (m : Nat) (l_ : List Int) : Option (Int × Int) :=
  Option.bind (fixed_check m l_) fun y3 =>
  cond (y3 != 0) (
  some (0, y3)) (
  Option.bind (
  fixed_Sum_L1 m l_ m 0 0) fun (z12 : Int) =>
  some (z12, 0))
theorem fixed_Sum_w {g_l_ : Gh} (M : Av) (m : Nat) (l_ : List Int) (r : Int × Int) (hm : fixed_Sum m l_ = some r) (w : World) (hS : S0 M [Ent.im (tI .i64) l_ g_l_] w) : Calls Tryd.prog 16 ⟨[.slice g_l_.a l_.length g_l_.c]⟩ w (fun e w' => ∃ v, e = .returned v ∧ v = .tuple ⟨[.int .i64 r.1, .int .i64 r.2]⟩ ∧ SH M (fpl [Ent.im (tI .i64) l_ g_l_]) w [] w') := by
  rw [fixed_Sum] at hm
  have hS0 : SH M (fpl [Ent.im (tI .i64) l_ g_l_]) w [Ent.im (tI .i64) l_ g_l_] w := hS
  generalize hX : fpl [Ent.im (tI .i64) l_ g_l_] = X at hS0 ⊢
  clear hS hX
  have hS := hS0
  clear hS0
  refine calls_entryP Tryd.func16 rfl Tryd.ntmps16 rfl fun _ H => ?_
  refine s_reg [] [0] [(0, [], .slice g_l_.a l_.length g_l_.c)] [] H (by kernel_rfl) trivial fun _ wd1 H2 hb => ?_
  clear H
  replace hS := hS.below hb
  clear hb
  refine w_seq ?_
  obtain ⟨y3, hy3, hm⟩ := bindE hm
  refine s_reg [(.int .i64 y3)] [0, 4] [(0, [], .slice g_l_.a l_.length g_l_.c), (4, [], .int .i64 y3)] [fun wz => RetB Tryd.prog 23 ⟨[.slice g_l_.a l_.length g_l_.c]⟩ (.int .i64 y3) wz] H2 (by kernel_rfl) ⟨(fixed_check_ok (g_l_ := g_l_) m _ _ hy3 _ (s0im s0nil (hS.im 0 rfl))), trivial⟩ fun _ wd4 H5 hb => ?_
  clear H2
  replace hS := hS.below hb
  clear hb
  refine s_reg [] [0, 4, 11] [(0, [], .slice g_l_.a l_.length g_l_.c), (4, [], .int .i64 y3), (11, [], .bool (y3 != 0))] [] H5 (by kernel_rfl) trivial fun _ wd6 H7 hb => ?_
  clear H5
  replace hS := hS.below hb
  clear hb
  refine w_if H7 rfl (fun hc => ?_) (fun hc => ?_)
  · replace hm := bT hc hm
    refine s_reg [] [2, 3] [(2, [], .int .i64 0), (3, [], .int .i64 y3)] [] H7 (by kernel_rfl) trivial fun _ wd8 H9 hb => ?_
    clear H7
    replace hS := hS.below hb
    clear hb
    replace hS : SH M X w [] _ := hS.sel [] rfl
    refine w_ret ?_
    obtain rfl := someE hm
    exact retR2 H9 rfl rfl rfl ⟨_, rfl, rfl, (hS.sel [] rfl)⟩
  · replace hm := bF hc hm
    refine w_skip ?_
    refine s_reg [] [0, 5] [(0, [], .slice g_l_.a l_.length g_l_.c), (5, [], .int .i64 0)] [] H7 (by kernel_rfl) trivial fun _ wd10 H11 hb => ?_
    clear H7
    replace hS := hS.below hb
    clear hb
    obtain ⟨z12, hz, hm⟩ := bindE hm
    refine w_cut (fun a' w' => Fr 25 [(5, [], .int .i64 z12)] a' ∧ SH M X w [Ent.im (tI .i64) l_ g_l_] w') ?_ ?_
    · replace hm := hz
      refine s_reg [] [5, 13, 14, 15] [(5, [], .int .i64 0), (13, [], .slice g_l_.a l_.length g_l_.c), (14, [], .int .i64 (ln l_)), (15, [], .int .i64 0)] [] H11 (by kernel_rfl) trivial fun _ wd13 H14 hb => ?_
      clear H11
      replace hS := hS.below hb
      clear hb
      refine w_block ?_
      refine w_loop (fun kk a' w' => ∃ (v15 : Int) (v16 : Int), fixed_Sum_L1 m l_ kk v15 v16 = some _ ∧ Fr 25 [(13, [], .slice g_l_.a l_.length g_l_.c), (14, [], .int .i64 (ln l_)), (5, [], .int .i64 v15), (15, [], .int .i64 v16)] a' ∧ SH M X w [Ent.im (tI .i64) l_ g_l_] w') ⟨_, 0, 0, hm, Fr.keep (ks := [13, 14, 5, 15]) H14 (by kernel_rfl), hS⟩ ?_
      clear hm H14 hS
      rintro kk _ wd26 ⟨v15, v16, hm, H, hS⟩
      cases kk with
      | zero => exact noneE hm
      | succ kk =>
        rw [fixed_Sum_L1] at hm
        refine s_reg [] [5, 13, 14, 15, 16] [(5, [], .int .i64 v15), (13, [], .slice g_l_.a l_.length g_l_.c), (14, [], .int .i64 (ln l_)), (15, [], .int .i64 v16), (16, [], .bool (decide (v16 < (ln l_))))] [] H (by kernel_rfl) trivial fun _ wd17 H18 hb => ?_
        clear H
        replace hS := hS.below hb
        clear hb
        refine w_seq ?_
        refine w_if H18 rfl (fun hc => ?_) (fun hc => ?_)
        · replace hm := bT hc hm
          refine w_skip ?_
          refine w_seq ?_
          refine w_block ?_
          obtain ⟨ho19, hm⟩ := chkE hm
          refine s_reg [(.int .i64 (gi l_ v16))] [5, 7, 13, 14, 15] [(5, [], .int .i64 v15), (7, [], .int .i64 (gi l_ v16)), (13, [], .slice g_l_.a l_.length g_l_.c), (14, [], .int .i64 (ln l_)), (15, [], .int .i64 v16)] [fun _ => oka g_l_.a ∧ 0 ≤ v16 ∧ v16 < ln l_, fun wz => V.at1 ⟨ab g_l_.a, ao g_l_.a + (v16).toNat * 1, none⟩ (.int .i64 (gi l_ v16)) wz] H18 (by kernel_rfl) ⟨((hS.im 0 rfl).oki ho19), ((hS.im 0 rfl).at1 ho19 0 rfl), trivial⟩ fun _ wd20 H21 hb => ?_
          clear H18
          replace hS := hS.below hb
          clear hb
          refine w_reg [(.int .i64 (fixed_hold (w64 (v15 + (gi l_ v16)))))] [5, 13, 14, 15] [(5, [], .int .i64 (fixed_hold (w64 (v15 + (gi l_ v16))))), (13, [], .slice g_l_.a l_.length g_l_.c), (14, [], .int .i64 (ln l_)), (15, [], .int .i64 v16)] [fun wz => RetB Tryd.prog 26 ⟨[.int .i64 (w64 (v15 + (gi l_ v16)))]⟩ (.int .i64 (fixed_hold (w64 (v15 + (gi l_ v16))))) wz] H21 (by kernel_rfl) ⟨((fixed_hold_ok _).b), trivial⟩ fun _ wd22 H23 hb => ?_
          clear H21
          replace hS := hS.below hb
          clear hb
          refine w_reg [] [5, 13, 14, 15] [(5, [], .int .i64 (fixed_hold (w64 (v15 + (gi l_ v16))))), (13, [], .slice g_l_.a l_.length g_l_.c), (14, [], .int .i64 (ln l_)), (15, [], .int .i64 (w64 (v16 + 1)))] [] H23 (by kernel_rfl) trivial fun _ wd24 H25 hb => ?_
          clear H23
          replace hS := hS.below hb
          clear hb
          exact ⟨_, Nat.lt_succ_self _, (fixed_hold (w64 (v15 + (gi l_ v16)))), w64 (v16 + 1), hm, Fr.keep (ks := [13, 14, 5, 15]) H25 (by kernel_rfl), hS⟩
        · replace hm := bF hc hm
          refine w_exit rfl ?_
          obtain rfl := someE hm
          exact ⟨Fr.keep (ks := [5]) H18 (by kernel_rfl), hS⟩
    · rintro _ wd29 ⟨H, hS⟩
      replace hS : SH M X w [] _ := hS.sel [] rfl
      refine s_reg [] [2, 3] [(2, [], .int .i64 z12), (3, [], .int .i64 0)] [] H (by kernel_rfl) trivial fun _ wd27 H28 hb => ?_
      clear H
      replace hS := hS.below hb
      clear hb
      refine w_ret ?_
      obtain rfl := someE hm
      exact retR2 H28 rfl rfl rfl ⟨_, rfl, rfl, (hS.sel [] rfl)⟩
theorem fixed_Sum_ok {g_l_ : Gh} (m : Nat) (l_ : List Int) (r : Int × Int) (hm : fixed_Sum m l_ = some r) (w : World) (hL : S0 F0 [Ent.im (tI .i64) l_ g_l_] w ∧ fpl [Ent.im (tI .i64) l_ g_l_] = []) : RetB Tryd.prog 16 ⟨[.slice g_l_.a l_.length g_l_.c]⟩ (.tuple ⟨[.int .i64 r.1, .int .i64 r.2]⟩) w := retB_of hL (Tryd.call16 _) (fun w' h => fixed_Sum_w F0 m   l_ r hm w' h)

def law06_writes (m : Nat) (n_ : Int) (want : Str) : Option (Bool) :=
  Option.bind (fixed_Write m n_) fun y3 =>
  some (cond (y3.2 == 0) (y3.1 == want) false)
theorem law06_writes_w  (M : Av) (m : Nat) (n_ : Int) (want : Str) (r : Bool) (hm : law06_writes m n_ want = some r) (w : World) (hS : S0 M [] w) : Calls Tryd.prog 20 ⟨[.int .i64 n_, .string ⟨⟨want⟩⟩]⟩ w (fun e w' => ∃ v, e = .returned v ∧ v = .bool r ∧ SH M (fpl []) w [] w') := by
  rw [law06_writes] at hm
  have hS0 : SH M (fpl []) w [] w := hS
  generalize hX : fpl [] = X at hS0 ⊢
  clear hS hX
  have hS := hS0
  clear hS0
  refine calls_entryP Tryd.func20 rfl Tryd.ntmps20 rfl fun _ H => ?_
  refine s_reg [] [0, 1] [(0, [], .int .i64 n_), (1, [], .string ⟨⟨want⟩⟩)] [] H (by kernel_rfl) trivial fun _ wd1 H2 hb => ?_
  clear H
  replace hS := hS.below hb
  clear hb
  obtain ⟨y3, hy3, hm⟩ := bindE hm
  refine s_reg [(.tuple ⟨[.string ⟨⟨y3.1⟩⟩, .int .i64 y3.2]⟩)] [1, 5, 6] [(1, [], .string ⟨⟨want⟩⟩), (5, [], .string ⟨⟨y3.1⟩⟩), (6, [], .int .i64 y3.2)] [fun wz => RetB Tryd.prog 8 ⟨[.int .i64 n_]⟩ (.tuple ⟨[.string ⟨⟨y3.1⟩⟩, .int .i64 y3.2]⟩) wz] H2 (by kernel_rfl) ⟨((fixed_Write_ok m _ _ hy3).b), trivial⟩ fun _ wd4 H5 hb => ?_
  clear H2
  replace hS := hS.below hb
  clear hb
  refine s_reg [] [4] [(4, [], .bool (cond (y3.2 == 0) (y3.1 == want) false))] [] H5 (by kernel_rfl) trivial fun _ wd6 H7 hb => ?_
  clear H5
  replace hS := hS.below hb
  clear hb
  refine w_ret ?_
  obtain rfl := someE hm
  exact retR1 H7 rfl rfl ⟨_, rfl, rfl, (hS.sel [] rfl)⟩
theorem law06_writes_ok  (m : Nat) (n_ : Int) (want : Str) (r : Bool) (hm : law06_writes m n_ want = some r) : Ret Tryd.prog 20 ⟨[.int .i64 n_, .string ⟨⟨want⟩⟩]⟩ (.bool r) := retP_of (Tryd.call20 _) (fun w h => law06_writes_w F0 m   n_ want r hm w h)

def math_bits_Mul64 (x_ : Int) (y_ : Int) : Int × Int :=
  lt (wu64 ((ibit .and .u64 x_ 4294967295) * (ibit .and .u64 y_ 4294967295))) fun x11 =>
  lt (wu64 ((Int.fdiv x_ (2 ^ 32)) * (ibit .and .u64 y_ 4294967295))) fun x14 =>
  lt (ibit .and .u64 (wu64 (x14 + (Int.fdiv x11 (2 ^ 32)))) 4294967295) fun x17 =>
  lt (Int.fdiv (wu64 (x14 + (Int.fdiv x11 (2 ^ 32)))) (2 ^ 32)) fun x20 =>
  lt (wu64 ((ibit .and .u64 x_ 4294967295) * (Int.fdiv y_ (2 ^ 32)))) fun x23 =>
  lt (wu64 ((Int.fdiv x_ (2 ^ 32)) * (Int.fdiv y_ (2 ^ 32)))) fun x26 =>
  lt (wu64 ((wu64 (x26 + x20)) + (Int.fdiv (wu64 (x17 + x23)) (2 ^ 32)))) fun x27 =>
  (x27, wu64 (x_ * y_))
theorem math_bits_Mul64_w  (M : Av) (x_ : Int) (y_ : Int) (r : Int × Int) (hm : math_bits_Mul64 x_ y_ = r) (w : World) (hS : S0 M [] w) : Calls Tryd.prog 27 ⟨[.int .u64 x_, .int .u64 y_]⟩ w (fun e w' => ∃ v, e = .returned v ∧ v = .tuple ⟨[.int .u64 r.1, .int .u64 r.2]⟩ ∧ SH M (fpl []) w [] w') := by
  rw [math_bits_Mul64] at hm
  have hS0 : SH M (fpl []) w [] w := hS
  generalize hX : fpl [] = X at hS0 ⊢
  clear hS hX
  have hS := hS0
  clear hS0
  refine calls_entryP Tryd.func27 rfl Tryd.ntmps27 rfl fun _ H => ?_
  refine s_reg [] [0, 1] [(0, [], .int .u64 x_), (1, [], .int .u64 y_)] [] H (by kernel_rfl) trivial fun _ wd1 H2 hb => ?_
  clear H
  replace hS := hS.below hb
  clear hb
  refine s_reg [] [0, 1, 6] [(0, [], .int .u64 x_), (1, [], .int .u64 y_), (6, [], .int .u64 (ibit .and .u64 x_ 4294967295))] [] H2 (by kernel_rfl) trivial fun _ wd3 H4 hb => ?_
  clear H2
  replace hS := hS.below hb
  clear hb
  refine s_reg [] [0, 1, 6, 7] [(0, [], .int .u64 x_), (1, [], .int .u64 y_), (6, [], .int .u64 (ibit .and .u64 x_ 4294967295)), (7, [], .int .u64 (Int.fdiv x_ (2 ^ 32)))] [fun _ => (0 : Int) ≤ 32] H4 (by kernel_rfl) ⟨(by show (0 : Int) ≤ 32; decide), trivial⟩ fun _ wd5 H6 hb => ?_
  clear H4
  replace hS := hS.below hb
  clear hb
  refine s_reg [] [0, 1, 6, 7, 8] [(0, [], .int .u64 x_), (1, [], .int .u64 y_), (6, [], .int .u64 (ibit .and .u64 x_ 4294967295)), (7, [], .int .u64 (Int.fdiv x_ (2 ^ 32))), (8, [], .int .u64 (ibit .and .u64 y_ 4294967295))] [] H6 (by kernel_rfl) trivial fun _ wd7 H8 hb => ?_
  clear H6
  replace hS := hS.below hb
  clear hb
  refine s_reg [] [0, 1, 6, 7, 8, 9] [(0, [], .int .u64 x_), (1, [], .int .u64 y_), (6, [], .int .u64 (ibit .and .u64 x_ 4294967295)), (7, [], .int .u64 (Int.fdiv x_ (2 ^ 32))), (8, [], .int .u64 (ibit .and .u64 y_ 4294967295)), (9, [], .int .u64 (Int.fdiv y_ (2 ^ 32)))] [fun _ => (0 : Int) ≤ 32] H8 (by kernel_rfl) ⟨(by show (0 : Int) ≤ 32; decide), trivial⟩ fun _ wd9 H10 hb => ?_
  clear H8
  replace hS := hS.below hb
  clear hb
  obtain ⟨x11, hx11, hm⟩ := letE hm
  refine s_reg [] [0, 1, 6, 7, 8, 9, 10] [(0, [], .int .u64 x_), (1, [], .int .u64 y_), (6, [], .int .u64 (ibit .and .u64 x_ 4294967295)), (7, [], .int .u64 (Int.fdiv x_ (2 ^ 32))), (8, [], .int .u64 (ibit .and .u64 y_ 4294967295)), (9, [], .int .u64 (Int.fdiv y_ (2 ^ 32))), (10, [], .int .u64 x11)] [] H10 (by subst hx11; kernel_rfl) trivial fun _ wd12 H13 hb => ?_
  clear H10
  replace hS := hS.below hb
  clear hb
  obtain ⟨x14, hx14, hm⟩ := letE hm
  refine s_reg [] [0, 1, 6, 7, 9, 11] [(0, [], .int .u64 x_), (1, [], .int .u64 y_), (6, [], .int .u64 (ibit .and .u64 x_ 4294967295)), (7, [], .int .u64 (Int.fdiv x_ (2 ^ 32))), (9, [], .int .u64 (Int.fdiv y_ (2 ^ 32))), (11, [], .int .u64 (wu64 (x14 + (Int.fdiv x11 (2 ^ 32)))))] [fun _ => (0 : Int) ≤ 32] H13 (by subst hx14; kernel_rfl) ⟨(by show (0 : Int) ≤ 32; decide), trivial⟩ fun _ wd15 H16 hb => ?_
  clear H13
  replace hS := hS.below hb
  clear hb
  obtain ⟨x17, hx17, hm⟩ := letE hm
  refine s_reg [] [0, 1, 6, 7, 9, 11, 12] [(0, [], .int .u64 x_), (1, [], .int .u64 y_), (6, [], .int .u64 (ibit .and .u64 x_ 4294967295)), (7, [], .int .u64 (Int.fdiv x_ (2 ^ 32))), (9, [], .int .u64 (Int.fdiv y_ (2 ^ 32))), (11, [], .int .u64 (wu64 (x14 + (Int.fdiv x11 (2 ^ 32))))), (12, [], .int .u64 x17)] [] H16 (by subst hx17; kernel_rfl) trivial fun _ wd18 H19 hb => ?_
  clear H16
  replace hS := hS.below hb
  clear hb
  obtain ⟨x20, hx20, hm⟩ := letE hm
  refine s_reg [] [0, 1, 6, 7, 9, 12, 13] [(0, [], .int .u64 x_), (1, [], .int .u64 y_), (6, [], .int .u64 (ibit .and .u64 x_ 4294967295)), (7, [], .int .u64 (Int.fdiv x_ (2 ^ 32))), (9, [], .int .u64 (Int.fdiv y_ (2 ^ 32))), (12, [], .int .u64 x17), (13, [], .int .u64 x20)] [fun _ => (0 : Int) ≤ 32] H19 (by subst hx20; kernel_rfl) ⟨(by show (0 : Int) ≤ 32; decide), trivial⟩ fun _ wd21 H22 hb => ?_
  clear H19
  replace hS := hS.below hb
  clear hb
  obtain ⟨x23, hx23, hm⟩ := letE hm
  refine s_reg [] [0, 1, 7, 9, 12, 13] [(0, [], .int .u64 x_), (1, [], .int .u64 y_), (7, [], .int .u64 (Int.fdiv x_ (2 ^ 32))), (9, [], .int .u64 (Int.fdiv y_ (2 ^ 32))), (12, [], .int .u64 (wu64 (x17 + x23))), (13, [], .int .u64 x20)] [] H22 (by subst hx23; kernel_rfl) trivial fun _ wd24 H25 hb => ?_
  clear H22
  replace hS := hS.below hb
  clear hb
  obtain ⟨x26, hx26, hm⟩ := letE hm
  obtain ⟨x27, hx27, hm⟩ := letE hm
  refine s_reg [] [0, 1, 4] [(0, [], .int .u64 x_), (1, [], .int .u64 y_), (4, [], .int .u64 x27)] [fun _ => (0 : Int) ≤ 32] H25 (by subst hx26 hx27; kernel_rfl) ⟨(by show (0 : Int) ≤ 32; decide), trivial⟩ fun _ wd28 H29 hb => ?_
  clear H25
  replace hS := hS.below hb
  clear hb
  refine s_reg [] [4, 5] [(4, [], .int .u64 x27), (5, [], .int .u64 (wu64 (x_ * y_)))] [] H29 (by kernel_rfl) trivial fun _ wd30 H31 hb => ?_
  clear H29
  replace hS := hS.below hb
  clear hb
  refine w_ret ?_
  subst hm
  exact retR2 H31 rfl rfl rfl ⟨_, rfl, rfl, (hS.sel [] rfl)⟩
theorem math_bits_Mul64_ok  (x_ : Int) (y_ : Int) : Ret Tryd.prog 27 ⟨[.int .u64 x_, .int .u64 y_]⟩ (.tuple ⟨[.int .u64 (math_bits_Mul64 x_ y_).1, .int .u64 (math_bits_Mul64 x_ y_).2]⟩) := retP_of (Tryd.call27 _) (fun w h => math_bits_Mul64_w F0   x_ y_ _ rfl w h)

def math_bits_Len64 (x_ : Int) : Option (Int) :=
  Option.bind (
  cond (decide (4294967296 ≤ x_)) (
  some (Int.fdiv x_ (2 ^ 32), 32)) (
  some (x_, 0))) fun (z3 : Int × Int) =>
  Option.bind (
  cond (decide (65536 ≤ z3.1)) (
  some (Int.fdiv z3.1 (2 ^ 16), w64 (z3.2 + 16))) (
  some (z3.1, z3.2))) fun (z10 : Int × Int) =>
  Option.bind (
  cond (decide (256 ≤ z10.1)) (
  some (Int.fdiv z10.1 (2 ^ 8), w64 (z10.2 + 8))) (
  some (z10.1, z10.2))) fun (z17 : Int × Int) =>
  chk (0 ≤ (wu8 z17.1) ∧ (wu8 z17.1) < ln [0, 1, 2, 2, 3, 3, 3, 3, 4, 4, 4, 4, 4, 4, 4, 4, 5, 5, 5, 5, 5, 5, 5, 5, 5, 5, 5, 5, 5, 5, 5, 5, 6, 6, 6, 6, 6, 6, 6, 6, 6, 6, 6, 6, 6, 6, 6, 6, 6, 6, 6, 6, 6, 6, 6, 6, 6, 6, 6, 6, 6, 6, 6, 6, 7, 7, 7, 7, 7, 7, 7, 7, 7, 7, 7, 7, 7, 7, 7, 7, 7, 7, 7, 7, 7, 7, 7, 7, 7, 7, 7, 7, 7, 7, 7, 7, 7, 7, 7, 7, 7, 7, 7, 7, 7, 7, 7, 7, 7, 7, 7, 7, 7, 7, 7, 7, 7, 7, 7, 7, 7, 7, 7, 7, 7, 7, 7, 7, 8, 8, 8, 8, 8, 8, 8, 8, 8, 8, 8, 8, 8, 8, 8, 8, 8, 8, 8, 8, 8, 8, 8, 8, 8, 8, 8, 8, 8, 8, 8, 8, 8, 8, 8, 8, 8, 8, 8, 8, 8, 8, 8, 8, 8, 8, 8, 8, 8, 8, 8, 8, 8, 8, 8, 8, 8, 8, 8, 8, 8, 8, 8, 8, 8, 8, 8, 8, 8, 8, 8, 8, 8, 8, 8, 8, 8, 8, 8, 8, 8, 8, 8, 8, 8, 8, 8, 8, 8, 8, 8, 8, 8, 8, 8, 8, 8, 8, 8, 8, 8, 8, 8, 8, 8, 8, 8, 8, 8, 8, 8, 8, 8, 8, 8, 8, 8, 8, 8, 8, 8, 8, 8, 8, 8, 8, 8, 8]) <|
  lt (bat [0, 1, 2, 2, 3, 3, 3, 3, 4, 4, 4, 4, 4, 4, 4, 4, 5, 5, 5, 5, 5, 5, 5, 5, 5, 5, 5, 5, 5, 5, 5, 5, 6, 6, 6, 6, 6, 6, 6, 6, 6, 6, 6, 6, 6, 6, 6, 6, 6, 6, 6, 6, 6, 6, 6, 6, 6, 6, 6, 6, 6, 6, 6, 6, 7, 7, 7, 7, 7, 7, 7, 7, 7, 7, 7, 7, 7, 7, 7, 7, 7, 7, 7, 7, 7, 7, 7, 7, 7, 7, 7, 7, 7, 7, 7, 7, 7, 7, 7, 7, 7, 7, 7, 7, 7, 7, 7, 7, 7, 7, 7, 7, 7, 7, 7, 7, 7, 7, 7, 7, 7, 7, 7, 7, 7, 7, 7, 7, 8, 8, 8, 8, 8, 8, 8, 8, 8, 8, 8, 8, 8, 8, 8, 8, 8, 8, 8, 8, 8, 8, 8, 8, 8, 8, 8, 8, 8, 8, 8, 8, 8, 8, 8, 8, 8, 8, 8, 8, 8, 8, 8, 8, 8, 8, 8, 8, 8, 8, 8, 8, 8, 8, 8, 8, 8, 8, 8, 8, 8, 8, 8, 8, 8, 8, 8, 8, 8, 8, 8, 8, 8, 8, 8, 8, 8, 8, 8, 8, 8, 8, 8, 8, 8, 8, 8, 8, 8, 8, 8, 8, 8, 8, 8, 8, 8, 8, 8, 8, 8, 8, 8, 8, 8, 8, 8, 8, 8, 8, 8, 8, 8, 8, 8, 8, 8, 8, 8, 8, 8, 8, 8, 8, 8, 8, 8, 8] (wu8 z17.1)) fun x25 =>
  some (w64 (z17.2 + (w64 x25)))
theorem math_bits_Len64_w  (M : Av) (x_ : Int) (r : Int) (hm : math_bits_Len64 x_ = some r) (w : World) (hS : S0 M [] w) : Calls Tryd.prog 46 ⟨[.int .u64 x_]⟩ w (fun e w' => ∃ v, e = .returned v ∧ v = .int .i64 r ∧ SH M (fpl []) w [] w') := by
  rw [math_bits_Len64] at hm
  have hS0 : SH M (fpl []) w [] w := hS
  generalize hX : fpl [] = X at hS0 ⊢
  clear hS hX
  have hS := hS0
  clear hS0
  refine calls_entryP Tryd.func46 rfl Tryd.ntmps46 rfl fun _ H => ?_
  refine s_reg [] [0, 2] [(0, [], .int .u64 x_), (2, [], .int .i64 0)] [] H (by kernel_rfl) trivial fun _ wd1 H2 hb => ?_
  clear H
  replace hS := hS.below hb
  clear hb
  obtain ⟨z3, hz, hm⟩ := bindE hm
  refine w_cut (fun a' w' => Fr 25 [(0, [], .int .u64 z3.1), (2, [], .int .i64 z3.2)] a' ∧ SH M X w [] w') ?_ ?_
  · replace hm := hz
    refine s_reg [] [0, 2, 4] [(0, [], .int .u64 x_), (2, [], .int .i64 0), (4, [], .bool (decide (4294967296 ≤ x_)))] [] H2 (by kernel_rfl) trivial fun _ wd4 H5 hb => ?_
    clear H2
    replace hS := hS.below hb
    clear hb
    refine w_if H5 rfl (fun hc => ?_) (fun hc => ?_)
    · replace hm := bT hc hm
      refine s_reg [] [0] [(0, [], .int .u64 (Int.fdiv x_ (2 ^ 32)))] [fun _ => (0 : Int) ≤ 32] H5 (by kernel_rfl) ⟨(by show (0 : Int) ≤ 32; decide), trivial⟩ fun _ wd6 H7 hb => ?_
      clear H5
      replace hS := hS.below hb
      clear hb
      refine w_reg [] [0, 2] [(0, [], .int .u64 (Int.fdiv x_ (2 ^ 32))), (2, [], .int .i64 32)] [] H7 (by kernel_rfl) trivial fun _ wd8 H9 hb => ?_
      clear H7
      replace hS := hS.below hb
      clear hb
      obtain rfl := someE hm
      exact ⟨Fr.keep (ks := [0, 2]) H9 (by kernel_rfl), hS⟩
    · replace hm := bF hc hm
      refine w_skip ?_
      obtain rfl := someE hm
      exact ⟨Fr.keep (ks := [0, 2]) H5 (by kernel_rfl), hS⟩
  · rintro _ wd30 ⟨H, hS⟩
    obtain ⟨z10, hz, hm⟩ := bindE hm
    refine w_cut (fun a' w' => Fr 25 [(0, [], .int .u64 z10.1), (2, [], .int .i64 z10.2)] a' ∧ SH M X w [] w') ?_ ?_
    · replace hm := hz
      refine s_reg [] [0, 2, 8] [(0, [], .int .u64 z3.1), (2, [], .int .i64 z3.2), (8, [], .bool (decide (65536 ≤ z3.1)))] [] H (by kernel_rfl) trivial fun _ wd11 H12 hb => ?_
      clear H
      replace hS := hS.below hb
      clear hb
      refine w_if H12 rfl (fun hc => ?_) (fun hc => ?_)
      · replace hm := bT hc hm
        refine s_reg [] [0, 2] [(0, [], .int .u64 (Int.fdiv z3.1 (2 ^ 16))), (2, [], .int .i64 z3.2)] [fun _ => (0 : Int) ≤ 16] H12 (by kernel_rfl) ⟨(by show (0 : Int) ≤ 16; decide), trivial⟩ fun _ wd13 H14 hb => ?_
        clear H12
        replace hS := hS.below hb
        clear hb
        refine w_reg [] [0, 2] [(0, [], .int .u64 (Int.fdiv z3.1 (2 ^ 16))), (2, [], .int .i64 (w64 (z3.2 + 16)))] [] H14 (by kernel_rfl) trivial fun _ wd15 H16 hb => ?_
        clear H14
        replace hS := hS.below hb
        clear hb
        obtain rfl := someE hm
        exact ⟨Fr.keep (ks := [0, 2]) H16 (by kernel_rfl), hS⟩
      · replace hm := bF hc hm
        refine w_skip ?_
        obtain rfl := someE hm
        exact ⟨Fr.keep (ks := [0, 2]) H12 (by kernel_rfl), hS⟩
    · rintro _ wd29 ⟨H, hS⟩
      obtain ⟨z17, hz, hm⟩ := bindE hm
      refine w_cut (fun a' w' => Fr 25 [(0, [], .int .u64 z17.1), (2, [], .int .i64 z17.2)] a' ∧ SH M X w [] w') ?_ ?_
      · replace hm := hz
        refine s_reg [] [0, 2, 14] [(0, [], .int .u64 z10.1), (2, [], .int .i64 z10.2), (14, [], .bool (decide (256 ≤ z10.1)))] [] H (by kernel_rfl) trivial fun _ wd18 H19 hb => ?_
        clear H
        replace hS := hS.below hb
        clear hb
        refine w_if H19 rfl (fun hc => ?_) (fun hc => ?_)
        · replace hm := bT hc hm
          refine s_reg [] [0, 2] [(0, [], .int .u64 (Int.fdiv z10.1 (2 ^ 8))), (2, [], .int .i64 z10.2)] [fun _ => (0 : Int) ≤ 8] H19 (by kernel_rfl) ⟨(by show (0 : Int) ≤ 8; decide), trivial⟩ fun _ wd20 H21 hb => ?_
          clear H19
          replace hS := hS.below hb
          clear hb
          refine w_reg [] [0, 2] [(0, [], .int .u64 (Int.fdiv z10.1 (2 ^ 8))), (2, [], .int .i64 (w64 (z10.2 + 8)))] [] H21 (by kernel_rfl) trivial fun _ wd22 H23 hb => ?_
          clear H21
          replace hS := hS.below hb
          clear hb
          obtain rfl := someE hm
          exact ⟨Fr.keep (ks := [0, 2]) H23 (by kernel_rfl), hS⟩
        · replace hm := bF hc hm
          refine w_skip ?_
          obtain rfl := someE hm
          exact ⟨Fr.keep (ks := [0, 2]) H19 (by kernel_rfl), hS⟩
      · rintro _ wd28 ⟨H, hS⟩
        obtain ⟨ho24, hm⟩ := chkE hm
        obtain ⟨x25, hx25, hm⟩ := letE hm
        refine s_reg [] [2] [(2, [], .int .i64 (w64 (z17.2 + (w64 x25))))] [fun _ => 0 ≤ (wu8 z17.1) ∧ (wu8 z17.1) < ln [0, 1, 2, 2, 3, 3, 3, 3, 4, 4, 4, 4, 4, 4, 4, 4, 5, 5, 5, 5, 5, 5, 5, 5, 5, 5, 5, 5, 5, 5, 5, 5, 6, 6, 6, 6, 6, 6, 6, 6, 6, 6, 6, 6, 6, 6, 6, 6, 6, 6, 6, 6, 6, 6, 6, 6, 6, 6, 6, 6, 6, 6, 6, 6, 7, 7, 7, 7, 7, 7, 7, 7, 7, 7, 7, 7, 7, 7, 7, 7, 7, 7, 7, 7, 7, 7, 7, 7, 7, 7, 7, 7, 7, 7, 7, 7, 7, 7, 7, 7, 7, 7, 7, 7, 7, 7, 7, 7, 7, 7, 7, 7, 7, 7, 7, 7, 7, 7, 7, 7, 7, 7, 7, 7, 7, 7, 7, 7, 8, 8, 8, 8, 8, 8, 8, 8, 8, 8, 8, 8, 8, 8, 8, 8, 8, 8, 8, 8, 8, 8, 8, 8, 8, 8, 8, 8, 8, 8, 8, 8, 8, 8, 8, 8, 8, 8, 8, 8, 8, 8, 8, 8, 8, 8, 8, 8, 8, 8, 8, 8, 8, 8, 8, 8, 8, 8, 8, 8, 8, 8, 8, 8, 8, 8, 8, 8, 8, 8, 8, 8, 8, 8, 8, 8, 8, 8, 8, 8, 8, 8, 8, 8, 8, 8, 8, 8, 8, 8, 8, 8, 8, 8, 8, 8, 8, 8, 8, 8, 8, 8, 8, 8, 8, 8, 8, 8, 8, 8, 8, 8, 8, 8, 8, 8, 8, 8, 8, 8, 8, 8, 8, 8, 8, 8, 8, 8]] H (by subst hx25; kernel_rfl) ⟨ho24, trivial⟩ fun _ wd26 H27 hb => ?_
        clear H
        replace hS := hS.below hb
        clear hb
        refine w_ret ?_
        obtain rfl := someE hm
        exact retR1 H27 rfl rfl ⟨_, rfl, rfl, (hS.sel [] rfl)⟩
theorem math_bits_Len64_ok  (x_ : Int) (r : Int) (hm : math_bits_Len64 x_ = some r) : Ret Tryd.prog 46 ⟨[.int .u64 x_]⟩ (.int .i64 r) := retP_of (Tryd.call46 _) (fun w h => math_bits_Len64_w F0   x_ r hm w h)

def math_bits_LeadingZeros64 (x_ : Int) : Option (Int) :=
  Option.bind (math_bits_Len64 x_) fun y3 =>
  some (w64 (64 - y3))
theorem math_bits_LeadingZeros64_w  (M : Av) (x_ : Int) (r : Int) (hm : math_bits_LeadingZeros64 x_ = some r) (w : World) (hS : S0 M [] w) : Calls Tryd.prog 36 ⟨[.int .u64 x_]⟩ w (fun e w' => ∃ v, e = .returned v ∧ v = .int .i64 r ∧ SH M (fpl []) w [] w') := by
  rw [math_bits_LeadingZeros64] at hm
  have hS0 : SH M (fpl []) w [] w := hS
  generalize hX : fpl [] = X at hS0 ⊢
  clear hS hX
  have hS := hS0
  clear hS0
  refine calls_entryP Tryd.func36 rfl Tryd.ntmps36 rfl fun _ H => ?_
  refine s_reg [] [0] [(0, [], .int .u64 x_)] [] H (by kernel_rfl) trivial fun _ wd1 H2 hb => ?_
  clear H
  replace hS := hS.below hb
  clear hb
  obtain ⟨y3, hy3, hm⟩ := bindE hm
  refine s_reg [(.int .i64 y3)] [2] [(2, [], .int .i64 (w64 (64 - y3)))] [fun wz => RetB Tryd.prog 46 ⟨[.int .u64 x_]⟩ (.int .i64 y3) wz] H2 (by kernel_rfl) ⟨((math_bits_Len64_ok _ _ hy3).b), trivial⟩ fun _ wd4 H5 hb => ?_
  clear H2
  replace hS := hS.below hb
  clear hb
  refine w_ret ?_
  obtain rfl := someE hm
  exact retR1 H5 rfl rfl ⟨_, rfl, rfl, (hS.sel [] rfl)⟩
theorem math_bits_LeadingZeros64_ok  (x_ : Int) (r : Int) (hm : math_bits_LeadingZeros64 x_ = some r) : Ret Tryd.prog 36 ⟨[.int .u64 x_]⟩ (.int .i64 r) := retP_of (Tryd.call36 _) (fun w h => math_bits_LeadingZeros64_w F0   x_ r hm w h)

def math_bits_Div64_L1 (m : Nat) (x16 : Int) (x28 : Int) : Nat → Int → Int → Option (Int)
  | 0, _, _ => none
  | kk + 1, v43, v44 =>
    lt (cond (decide (4294967296 ≤ v43)) true (decide ((wu64 ((wu64 (4294967296 * v44)) + (Int.fdiv x28 (2 ^ 32)))) < (wu64 (v43 * (ibit .and .u64 x16 4294967295)))))) fun x45 =>
    cond x45 (
    lt (decide (4294967296 ≤ (wu64 (v44 + (Int.fdiv x16 (2 ^ 32)))))) fun x52 =>
    cond x52 (
    some (wu64 (v43 - 1))) (
    math_bits_Div64_L1 m x16 x28 kk (wu64 (v43 - 1)) (wu64 (v44 + (Int.fdiv x16 (2 ^ 32)))))) (
    some v43)
def math_bits_Div64_L2 (m : Nat) (x16 : Int) (x28 : Int) : Nat → Int → Int → Option (Int)
  | 0, _, _ => none
  | kk + 1, v67, v68 =>
    lt (cond (decide (4294967296 ≤ v68)) true (decide ((wu64 ((wu64 (4294967296 * v67)) + (ibit .and .u64 x28 4294967295))) < (wu64 (v68 * (ibit .and .u64 x16 4294967295)))))) fun x69 =>
    cond x69 (
    lt (decide (4294967296 ≤ (wu64 (v67 + (Int.fdiv x16 (2 ^ 32)))))) fun x76 =>
    cond x76 (
    some (wu64 (v68 - 1))) (
    math_bits_Div64_L2 m x16 x28 kk (wu64 (v67 + (Int.fdiv x16 (2 ^ 32)))) (wu64 (v68 - 1)))) (
    some v68)
def math_bits_Div64 (m : Nat) (hi_ : Int) (lo : Int) (y_ : Int) : Option (Int × Int) :=
  cond (y_ == 0) (
  none) (
  cond (decide (y_ ≤ hi_)) (
  none) (
  cond (hi_ == 0) (
  chk (y_ ≠ 0) <|
  some (wu64 (Int.tdiv lo y_), Int.tmod lo y_)) (
  Option.bind (math_bits_LeadingZeros64 y_) fun y12 =>
  chk (0 ≤ (wu64 y12)) <|
  lt (wu64 (y_ * 2 ^ (Nat.min (wu64 y12).toNat 64))) fun x16 =>
  lt (wu64 (hi_ * 2 ^ (Nat.min (wu64 y12).toNat 64))) fun x23 =>
  chk (0 ≤ (wu64 (64 - (wu64 y12)))) <|
  lt (Int.fdiv lo (2 ^ (Nat.min (wu64 (64 - (wu64 y12))).toNat 64))) fun x25 =>
  lt (wu64 (lo * 2 ^ (Nat.min (wu64 y12).toNat 64))) fun x28 =>
  chk ((Int.fdiv x16 (2 ^ 32)) ≠ 0) <|
  lt (wu64 (Int.tdiv (ibit .or .u64 x23 x25) (Int.fdiv x16 (2 ^ 32)))) fun x36 =>
  lt (wu64 ((ibit .or .u64 x23 x25) - (wu64 (x36 * (Int.fdiv x16 (2 ^ 32)))))) fun x39 =>
  Option.bind (
  math_bits_Div64_L1 m x16 x28 m x36 x39) fun (z42 : Int) =>
  lt (wu64 ((ibit .or .u64 x23 x25) * 4294967296)) fun x56 =>
  lt (wu64 ((wu64 (x56 + (Int.fdiv x28 (2 ^ 32)))) - (wu64 (z42 * x16)))) fun x57 =>
  lt (wu64 (Int.tdiv x57 (Int.fdiv x16 (2 ^ 32)))) fun x60 =>
  lt (wu64 (x57 - (wu64 (x60 * (Int.fdiv x16 (2 ^ 32)))))) fun x63 =>
  Option.bind (
  math_bits_Div64_L2 m x16 x28 m x63 x60) fun (z66 : Int) =>
  lt (wu64 ((wu64 (x57 * 4294967296)) + (ibit .and .u64 x28 4294967295))) fun x80 =>
  lt (Int.fdiv (wu64 (x80 - (wu64 (z66 * x16)))) (2 ^ (Nat.min (wu64 y12).toNat 64))) fun x81 =>
  some (wu64 ((wu64 (z42 * 4294967296)) + z66), x81))))
theorem math_bits_Div64_w  (M : Av) (m : Nat) (hi_ : Int) (lo : Int) (y_ : Int) (r : Int × Int) (hm : math_bits_Div64 m hi_ lo y_ = some r) (w : World) (hS : S0 M [] w) : Calls Tryd.prog 28 ⟨[.int .u64 hi_, .int .u64 lo, .int .u64 y_]⟩ w (fun e w' => ∃ v, e = .returned v ∧ v = .tuple ⟨[.int .u64 r.1, .int .u64 r.2]⟩ ∧ SH M (fpl []) w [] w') := by
  rw [math_bits_Div64] at hm
  have hS0 : SH M (fpl []) w [] w := hS
  generalize hX : fpl [] = X at hS0 ⊢
  clear hS hX
  have hS := hS0
  clear hS0
  refine calls_entryP Tryd.func28 rfl Tryd.ntmps28 rfl fun _ H => ?_
  refine s_reg [] [0, 1, 2] [(0, [], .int .u64 hi_), (1, [], .int .u64 lo), (2, [], .int .u64 y_)] [] H (by kernel_rfl) trivial fun _ wd1 H2 hb => ?_
  clear H
  replace hS := hS.below hb
  clear hb
  refine w_seq ?_
  refine s_reg [] [0, 1, 2, 20] [(0, [], .int .u64 hi_), (1, [], .int .u64 lo), (2, [], .int .u64 y_), (20, [], .bool (y_ == 0))] [] H2 (by kernel_rfl) trivial fun _ wd3 H4 hb => ?_
  clear H2
  replace hS := hS.below hb
  clear hb
  refine w_if H4 rfl (fun hc => ?_) (fun hc => ?_)
  · replace hm := bT hc hm
    exact noneE hm
  · replace hm := bF hc hm
    refine w_skip ?_
    refine w_seq ?_
    refine s_reg [] [0, 1, 2, 24] [(0, [], .int .u64 hi_), (1, [], .int .u64 lo), (2, [], .int .u64 y_), (24, [], .bool (decide (y_ ≤ hi_)))] [] H4 (by kernel_rfl) trivial fun _ wd5 H6 hb => ?_
    clear H4
    replace hS := hS.below hb
    clear hb
    refine w_if H6 rfl (fun hc => ?_) (fun hc => ?_)
    · replace hm := bT hc hm
      exact noneE hm
    · replace hm := bF hc hm
      refine w_skip ?_
      refine w_seq ?_
      refine s_reg [] [0, 1, 2, 27] [(0, [], .int .u64 hi_), (1, [], .int .u64 lo), (2, [], .int .u64 y_), (27, [], .bool (hi_ == 0))] [] H6 (by kernel_rfl) trivial fun _ wd7 H8 hb => ?_
      clear H6
      replace hS := hS.below hb
      clear hb
      refine w_if H8 rfl (fun hc => ?_) (fun hc => ?_)
      · replace hm := bT hc hm
        obtain ⟨ho9, hm⟩ := chkE hm
        refine s_draw [] [6, 7] [(6, [], .int .u64 (wu64 (Int.tdiv lo y_))), (7, [], .int .u64 (Int.tmod lo y_))] [fun _ => y_ ≠ 0, fun _ => y_ ≠ 0] H8 (by kernel_rfl) (by kernel_rfl) (by kernel_rfl) ⟨ho9, ho9, trivial⟩ fun _ wd10 H11 hb => ?_
        clear H8
        replace hS := hS.below hb
        clear hb
        refine w_ret ?_
        obtain rfl := someE hm
        exact retR2 H11 rfl rfl rfl ⟨_, rfl, rfl, (hS.sel [] rfl)⟩
      · replace hm := bF hc hm
        refine w_skip ?_
        obtain ⟨y12, hy12, hm⟩ := bindE hm
        refine s_reg [(.int .i64 y12)] [0, 1, 2, 8] [(0, [], .int .u64 hi_), (1, [], .int .u64 lo), (2, [], .int .u64 y_), (8, [], .int .u64 (wu64 y12))] [fun wz => RetB Tryd.prog 36 ⟨[.int .u64 y_]⟩ (.int .i64 y12) wz] H8 (by kernel_rfl) ⟨((math_bits_LeadingZeros64_ok _ _ hy12).b), trivial⟩ fun _ wd13 H14 hb => ?_
        clear H8
        replace hS := hS.below hb
        clear hb
        obtain ⟨ho15, hm⟩ := chkE hm
        obtain ⟨x16, hx16, hm⟩ := letE hm
        refine s_reg [] [0, 1, 2, 8] [(0, [], .int .u64 hi_), (1, [], .int .u64 lo), (2, [], .int .u64 x16), (8, [], .int .u64 (wu64 y12))] [fun _ => 0 ≤ (wu64 y12)] H14 (by subst hx16; kernel_rfl) ⟨ho15, trivial⟩ fun _ wd17 H18 hb => ?_
        clear H14
        replace hS := hS.below hb
        clear hb
        refine s_reg [] [0, 1, 2, 8, 9] [(0, [], .int .u64 hi_), (1, [], .int .u64 lo), (2, [], .int .u64 x16), (8, [], .int .u64 (wu64 y12)), (9, [], .int .u64 (Int.fdiv x16 (2 ^ 32)))] [fun _ => (0 : Int) ≤ 32] H18 (by kernel_rfl) ⟨(by show (0 : Int) ≤ 32; decide), trivial⟩ fun _ wd19 H20 hb => ?_
        clear H18
        replace hS := hS.below hb
        clear hb
        refine s_reg [] [0, 1, 2, 8, 9, 10] [(0, [], .int .u64 hi_), (1, [], .int .u64 lo), (2, [], .int .u64 x16), (8, [], .int .u64 (wu64 y12)), (9, [], .int .u64 (Int.fdiv x16 (2 ^ 32))), (10, [], .int .u64 (ibit .and .u64 x16 4294967295))] [] H20 (by kernel_rfl) trivial fun _ wd21 H22 hb => ?_
        clear H20
        replace hS := hS.below hb
        clear hb
        obtain ⟨x23, hx23, hm⟩ := letE hm
        obtain ⟨ho24, hm⟩ := chkE hm
        obtain ⟨x25, hx25, hm⟩ := letE hm
        refine s_reg [] [1, 2, 8, 9, 10, 11] [(1, [], .int .u64 lo), (2, [], .int .u64 x16), (8, [], .int .u64 (wu64 y12)), (9, [], .int .u64 (Int.fdiv x16 (2 ^ 32))), (10, [], .int .u64 (ibit .and .u64 x16 4294967295)), (11, [], .int .u64 (ibit .or .u64 x23 x25))] [fun _ => 0 ≤ (wu64 y12), fun _ => 0 ≤ (wu64 (64 - (wu64 y12)))] H22 (by subst hx23 hx25; kernel_rfl) ⟨ho15, ho24, trivial⟩ fun _ wd26 H27 hb => ?_
        clear H22
        replace hS := hS.below hb
        clear hb
        obtain ⟨x28, hx28, hm⟩ := letE hm
        refine s_reg [] [2, 8, 9, 10, 11, 12] [(2, [], .int .u64 x16), (8, [], .int .u64 (wu64 y12)), (9, [], .int .u64 (Int.fdiv x16 (2 ^ 32))), (10, [], .int .u64 (ibit .and .u64 x16 4294967295)), (11, [], .int .u64 (ibit .or .u64 x23 x25)), (12, [], .int .u64 x28)] [fun _ => 0 ≤ (wu64 y12)] H27 (by subst hx28; kernel_rfl) ⟨ho15, trivial⟩ fun _ wd29 H30 hb => ?_
        clear H27
        replace hS := hS.below hb
        clear hb
        refine s_reg [] [2, 8, 9, 10, 11, 12, 13] [(2, [], .int .u64 x16), (8, [], .int .u64 (wu64 y12)), (9, [], .int .u64 (Int.fdiv x16 (2 ^ 32))), (10, [], .int .u64 (ibit .and .u64 x16 4294967295)), (11, [], .int .u64 (ibit .or .u64 x23 x25)), (12, [], .int .u64 x28), (13, [], .int .u64 (Int.fdiv x28 (2 ^ 32)))] [fun _ => (0 : Int) ≤ 32] H30 (by kernel_rfl) ⟨(by show (0 : Int) ≤ 32; decide), trivial⟩ fun _ wd31 H32 hb => ?_
        clear H30
        replace hS := hS.below hb
        clear hb
        refine s_reg [] [2, 8, 9, 10, 11, 13, 14] [(2, [], .int .u64 x16), (8, [], .int .u64 (wu64 y12)), (9, [], .int .u64 (Int.fdiv x16 (2 ^ 32))), (10, [], .int .u64 (ibit .and .u64 x16 4294967295)), (11, [], .int .u64 (ibit .or .u64 x23 x25)), (13, [], .int .u64 (Int.fdiv x28 (2 ^ 32))), (14, [], .int .u64 (ibit .and .u64 x28 4294967295))] [] H32 (by kernel_rfl) trivial fun _ wd33 H34 hb => ?_
        clear H32
        replace hS := hS.below hb
        clear hb
        obtain ⟨ho35, hm⟩ := chkE hm
        obtain ⟨x36, hx36, hm⟩ := letE hm
        refine s_reg [] [2, 8, 9, 10, 11, 13, 14, 15] [(2, [], .int .u64 x16), (8, [], .int .u64 (wu64 y12)), (9, [], .int .u64 (Int.fdiv x16 (2 ^ 32))), (10, [], .int .u64 (ibit .and .u64 x16 4294967295)), (11, [], .int .u64 (ibit .or .u64 x23 x25)), (13, [], .int .u64 (Int.fdiv x28 (2 ^ 32))), (14, [], .int .u64 (ibit .and .u64 x28 4294967295)), (15, [], .int .u64 x36)] [fun _ => (Int.fdiv x16 (2 ^ 32)) ≠ 0] H34 (by subst hx36; kernel_rfl) ⟨ho35, trivial⟩ fun _ wd37 H38 hb => ?_
        clear H34
        replace hS := hS.below hb
        clear hb
        obtain ⟨x39, hx39, hm⟩ := letE hm
        refine s_reg [] [2, 8, 9, 10, 11, 13, 14, 15, 16] [(2, [], .int .u64 x16), (8, [], .int .u64 (wu64 y12)), (9, [], .int .u64 (Int.fdiv x16 (2 ^ 32))), (10, [], .int .u64 (ibit .and .u64 x16 4294967295)), (11, [], .int .u64 (ibit .or .u64 x23 x25)), (13, [], .int .u64 (Int.fdiv x28 (2 ^ 32))), (14, [], .int .u64 (ibit .and .u64 x28 4294967295)), (15, [], .int .u64 x36), (16, [], .int .u64 x39)] [] H38 (by subst hx39; kernel_rfl) trivial fun _ wd40 H41 hb => ?_
        clear H38
        replace hS := hS.below hb
        clear hb
        obtain ⟨z42, hz, hm⟩ := bindE hm
        refine w_cut (fun a' w' => Fr 135 [(2, [], .int .u64 x16), (8, [], .int .u64 (wu64 y12)), (9, [], .int .u64 (Int.fdiv x16 (2 ^ 32))), (10, [], .int .u64 (ibit .and .u64 x16 4294967295)), (11, [], .int .u64 (ibit .or .u64 x23 x25)), (13, [], .int .u64 (Int.fdiv x28 (2 ^ 32))), (14, [], .int .u64 (ibit .and .u64 x28 4294967295)), (15, [], .int .u64 z42)] a' ∧ SH M X w [] w') ?_ ?_
        · replace hm := hz
          refine w_block ?_
          refine w_loop (fun kk a' w' => ∃ (v43 : Int) (v44 : Int), math_bits_Div64_L1 m x16 x28 kk v43 v44 = some _ ∧ Fr 135 [(2, [], .int .u64 x16), (8, [], .int .u64 (wu64 y12)), (9, [], .int .u64 (Int.fdiv x16 (2 ^ 32))), (10, [], .int .u64 (ibit .and .u64 x16 4294967295)), (11, [], .int .u64 (ibit .or .u64 x23 x25)), (13, [], .int .u64 (Int.fdiv x28 (2 ^ 32))), (14, [], .int .u64 (ibit .and .u64 x28 4294967295)), (15, [], .int .u64 v43), (16, [], .int .u64 v44)] a' ∧ SH M X w [] w') ⟨_, x36, x39, hm, Fr.keep (ks := [2, 8, 9, 10, 11, 13, 14, 15, 16]) H41 (by kernel_rfl), hS⟩ ?_
          clear hm H41 hS
          rintro kk _ wd55 ⟨v43, v44, hm, H, hS⟩
          cases kk with
          | zero => exact noneE hm
          | succ kk =>
            rw [math_bits_Div64_L1] at hm
            refine w_seq ?_
            obtain ⟨x45, hx45, hm⟩ := letE hm
            refine s_reg [] [2, 8, 9, 10, 11, 13, 14, 15, 16, 78] [(2, [], .int .u64 x16), (8, [], .int .u64 (wu64 y12)), (9, [], .int .u64 (Int.fdiv x16 (2 ^ 32))), (10, [], .int .u64 (ibit .and .u64 x16 4294967295)), (11, [], .int .u64 (ibit .or .u64 x23 x25)), (13, [], .int .u64 (Int.fdiv x28 (2 ^ 32))), (14, [], .int .u64 (ibit .and .u64 x28 4294967295)), (15, [], .int .u64 v43), (16, [], .int .u64 v44), (78, [], .bool x45)] [] H (by subst hx45; kernel_rfl) trivial fun _ wd46 H47 hb => ?_
            clear H
            replace hS := hS.below hb
            clear hb
            refine w_if H47 rfl (fun hc => ?_) (fun hc => ?_)
            · replace hm := bT hc hm
              refine w_skip ?_
              refine w_block ?_
              refine s_reg [] [2, 8, 9, 10, 11, 13, 14, 15, 16] [(2, [], .int .u64 x16), (8, [], .int .u64 (wu64 y12)), (9, [], .int .u64 (Int.fdiv x16 (2 ^ 32))), (10, [], .int .u64 (ibit .and .u64 x16 4294967295)), (11, [], .int .u64 (ibit .or .u64 x23 x25)), (13, [], .int .u64 (Int.fdiv x28 (2 ^ 32))), (14, [], .int .u64 (ibit .and .u64 x28 4294967295)), (15, [], .int .u64 (wu64 (v43 - 1))), (16, [], .int .u64 v44)] [] H47 (by kernel_rfl) trivial fun _ wd48 H49 hb => ?_
              clear H47
              replace hS := hS.below hb
              clear hb
              refine s_reg [] [2, 8, 9, 10, 11, 13, 14, 15, 16] [(2, [], .int .u64 x16), (8, [], .int .u64 (wu64 y12)), (9, [], .int .u64 (Int.fdiv x16 (2 ^ 32))), (10, [], .int .u64 (ibit .and .u64 x16 4294967295)), (11, [], .int .u64 (ibit .or .u64 x23 x25)), (13, [], .int .u64 (Int.fdiv x28 (2 ^ 32))), (14, [], .int .u64 (ibit .and .u64 x28 4294967295)), (15, [], .int .u64 (wu64 (v43 - 1))), (16, [], .int .u64 (wu64 (v44 + (Int.fdiv x16 (2 ^ 32)))))] [] H49 (by kernel_rfl) trivial fun _ wd50 H51 hb => ?_
              clear H49
              replace hS := hS.below hb
              clear hb
              obtain ⟨x52, hx52, hm⟩ := letE hm
              refine s_reg [] [2, 8, 9, 10, 11, 13, 14, 15, 16, 85] [(2, [], .int .u64 x16), (8, [], .int .u64 (wu64 y12)), (9, [], .int .u64 (Int.fdiv x16 (2 ^ 32))), (10, [], .int .u64 (ibit .and .u64 x16 4294967295)), (11, [], .int .u64 (ibit .or .u64 x23 x25)), (13, [], .int .u64 (Int.fdiv x28 (2 ^ 32))), (14, [], .int .u64 (ibit .and .u64 x28 4294967295)), (15, [], .int .u64 (wu64 (v43 - 1))), (16, [], .int .u64 (wu64 (v44 + (Int.fdiv x16 (2 ^ 32))))), (85, [], .bool x52)] [] H51 (by subst hx52; kernel_rfl) trivial fun _ wd53 H54 hb => ?_
              clear H51
              replace hS := hS.below hb
              clear hb
              refine w_if H54 rfl (fun hc => ?_) (fun hc => ?_)
              · replace hm := bT hc hm
                refine w_exit rfl ?_
                obtain rfl := someE hm
                exact ⟨Fr.keep (ks := [2, 8, 9, 10, 11, 13, 14, 15]) H54 (by kernel_rfl), hS⟩
              · replace hm := bF hc hm
                refine w_skip ?_
                exact ⟨_, Nat.lt_succ_self _, wu64 (v43 - 1), wu64 (v44 + (Int.fdiv x16 (2 ^ 32))), hm, Fr.keep (ks := [2, 8, 9, 10, 11, 13, 14, 15, 16]) H54 (by kernel_rfl), hS⟩
            · replace hm := bF hc hm
              refine w_exit rfl ?_
              obtain rfl := someE hm
              exact ⟨Fr.keep (ks := [2, 8, 9, 10, 11, 13, 14, 15]) H47 (by kernel_rfl), hS⟩
        · rintro _ wd85 ⟨H, hS⟩
          obtain ⟨x56, hx56, hm⟩ := letE hm
          obtain ⟨x57, hx57, hm⟩ := letE hm
          refine s_reg [] [2, 8, 9, 10, 14, 15, 17] [(2, [], .int .u64 x16), (8, [], .int .u64 (wu64 y12)), (9, [], .int .u64 (Int.fdiv x16 (2 ^ 32))), (10, [], .int .u64 (ibit .and .u64 x16 4294967295)), (14, [], .int .u64 (ibit .and .u64 x28 4294967295)), (15, [], .int .u64 z42), (17, [], .int .u64 x57)] [] H (by subst hx56 hx57; kernel_rfl) trivial fun _ wd58 H59 hb => ?_
          clear H
          replace hS := hS.below hb
          clear hb
          obtain ⟨x60, hx60, hm⟩ := letE hm
          refine s_reg [] [2, 8, 9, 10, 14, 15, 17, 18] [(2, [], .int .u64 x16), (8, [], .int .u64 (wu64 y12)), (9, [], .int .u64 (Int.fdiv x16 (2 ^ 32))), (10, [], .int .u64 (ibit .and .u64 x16 4294967295)), (14, [], .int .u64 (ibit .and .u64 x28 4294967295)), (15, [], .int .u64 z42), (17, [], .int .u64 x57), (18, [], .int .u64 x60)] [fun _ => (Int.fdiv x16 (2 ^ 32)) ≠ 0] H59 (by subst hx60; kernel_rfl) ⟨ho35, trivial⟩ fun _ wd61 H62 hb => ?_
          clear H59
          replace hS := hS.below hb
          clear hb
          obtain ⟨x63, hx63, hm⟩ := letE hm
          refine s_reg [] [2, 8, 9, 10, 14, 15, 16, 17, 18] [(2, [], .int .u64 x16), (8, [], .int .u64 (wu64 y12)), (9, [], .int .u64 (Int.fdiv x16 (2 ^ 32))), (10, [], .int .u64 (ibit .and .u64 x16 4294967295)), (14, [], .int .u64 (ibit .and .u64 x28 4294967295)), (15, [], .int .u64 z42), (16, [], .int .u64 x63), (17, [], .int .u64 x57), (18, [], .int .u64 x60)] [] H62 (by subst hx63; kernel_rfl) trivial fun _ wd64 H65 hb => ?_
          clear H62
          replace hS := hS.below hb
          clear hb
          obtain ⟨z66, hz, hm⟩ := bindE hm
          refine w_cut (fun a' w' => Fr 135 [(2, [], .int .u64 x16), (8, [], .int .u64 (wu64 y12)), (14, [], .int .u64 (ibit .and .u64 x28 4294967295)), (15, [], .int .u64 z42), (17, [], .int .u64 x57), (18, [], .int .u64 z66)] a' ∧ SH M X w [] w') ?_ ?_
          · replace hm := hz
            refine w_block ?_
            refine w_loop (fun kk a' w' => ∃ (v67 : Int) (v68 : Int), math_bits_Div64_L2 m x16 x28 kk v67 v68 = some _ ∧ Fr 135 [(2, [], .int .u64 x16), (8, [], .int .u64 (wu64 y12)), (9, [], .int .u64 (Int.fdiv x16 (2 ^ 32))), (10, [], .int .u64 (ibit .and .u64 x16 4294967295)), (14, [], .int .u64 (ibit .and .u64 x28 4294967295)), (15, [], .int .u64 z42), (17, [], .int .u64 x57), (16, [], .int .u64 v67), (18, [], .int .u64 v68)] a' ∧ SH M X w [] w') ⟨_, x63, x60, hm, Fr.keep (ks := [2, 8, 9, 10, 14, 15, 17, 16, 18]) H65 (by kernel_rfl), hS⟩ ?_
            clear hm H65 hS
            rintro kk _ wd79 ⟨v67, v68, hm, H, hS⟩
            cases kk with
            | zero => exact noneE hm
            | succ kk =>
              rw [math_bits_Div64_L2] at hm
              refine w_seq ?_
              obtain ⟨x69, hx69, hm⟩ := letE hm
              refine s_reg [] [2, 8, 9, 10, 14, 15, 16, 17, 18, 113] [(2, [], .int .u64 x16), (8, [], .int .u64 (wu64 y12)), (9, [], .int .u64 (Int.fdiv x16 (2 ^ 32))), (10, [], .int .u64 (ibit .and .u64 x16 4294967295)), (14, [], .int .u64 (ibit .and .u64 x28 4294967295)), (15, [], .int .u64 z42), (16, [], .int .u64 v67), (17, [], .int .u64 x57), (18, [], .int .u64 v68), (113, [], .bool x69)] [] H (by subst hx69; kernel_rfl) trivial fun _ wd70 H71 hb => ?_
              clear H
              replace hS := hS.below hb
              clear hb
              refine w_if H71 rfl (fun hc => ?_) (fun hc => ?_)
              · replace hm := bT hc hm
                refine w_skip ?_
                refine w_block ?_
                refine s_reg [] [2, 8, 9, 10, 14, 15, 16, 17, 18] [(2, [], .int .u64 x16), (8, [], .int .u64 (wu64 y12)), (9, [], .int .u64 (Int.fdiv x16 (2 ^ 32))), (10, [], .int .u64 (ibit .and .u64 x16 4294967295)), (14, [], .int .u64 (ibit .and .u64 x28 4294967295)), (15, [], .int .u64 z42), (16, [], .int .u64 v67), (17, [], .int .u64 x57), (18, [], .int .u64 (wu64 (v68 - 1)))] [] H71 (by kernel_rfl) trivial fun _ wd72 H73 hb => ?_
                clear H71
                replace hS := hS.below hb
                clear hb
                refine s_reg [] [2, 8, 9, 10, 14, 15, 16, 17, 18] [(2, [], .int .u64 x16), (8, [], .int .u64 (wu64 y12)), (9, [], .int .u64 (Int.fdiv x16 (2 ^ 32))), (10, [], .int .u64 (ibit .and .u64 x16 4294967295)), (14, [], .int .u64 (ibit .and .u64 x28 4294967295)), (15, [], .int .u64 z42), (16, [], .int .u64 (wu64 (v67 + (Int.fdiv x16 (2 ^ 32))))), (17, [], .int .u64 x57), (18, [], .int .u64 (wu64 (v68 - 1)))] [] H73 (by kernel_rfl) trivial fun _ wd74 H75 hb => ?_
                clear H73
                replace hS := hS.below hb
                clear hb
                obtain ⟨x76, hx76, hm⟩ := letE hm
                refine s_reg [] [2, 8, 9, 10, 14, 15, 16, 17, 18, 120] [(2, [], .int .u64 x16), (8, [], .int .u64 (wu64 y12)), (9, [], .int .u64 (Int.fdiv x16 (2 ^ 32))), (10, [], .int .u64 (ibit .and .u64 x16 4294967295)), (14, [], .int .u64 (ibit .and .u64 x28 4294967295)), (15, [], .int .u64 z42), (16, [], .int .u64 (wu64 (v67 + (Int.fdiv x16 (2 ^ 32))))), (17, [], .int .u64 x57), (18, [], .int .u64 (wu64 (v68 - 1))), (120, [], .bool x76)] [] H75 (by subst hx76; kernel_rfl) trivial fun _ wd77 H78 hb => ?_
                clear H75
                replace hS := hS.below hb
                clear hb
                refine w_if H78 rfl (fun hc => ?_) (fun hc => ?_)
                · replace hm := bT hc hm
                  refine w_exit rfl ?_
                  obtain rfl := someE hm
                  exact ⟨Fr.keep (ks := [2, 8, 14, 15, 17, 18]) H78 (by kernel_rfl), hS⟩
                · replace hm := bF hc hm
                  refine w_skip ?_
                  exact ⟨_, Nat.lt_succ_self _, wu64 (v67 + (Int.fdiv x16 (2 ^ 32))), wu64 (v68 - 1), hm, Fr.keep (ks := [2, 8, 9, 10, 14, 15, 17, 16, 18]) H78 (by kernel_rfl), hS⟩
              · replace hm := bF hc hm
                refine w_exit rfl ?_
                obtain rfl := someE hm
                exact ⟨Fr.keep (ks := [2, 8, 14, 15, 17, 18]) H71 (by kernel_rfl), hS⟩
          · rintro _ wd84 ⟨H, hS⟩
            obtain ⟨x80, hx80, hm⟩ := letE hm
            obtain ⟨x81, hx81, hm⟩ := letE hm
            refine s_reg [] [6, 7] [(6, [], .int .u64 (wu64 ((wu64 (z42 * 4294967296)) + z66))), (7, [], .int .u64 x81)] [fun _ => 0 ≤ (wu64 y12)] H (by subst hx80 hx81; kernel_rfl) ⟨ho15, trivial⟩ fun _ wd82 H83 hb => ?_
            clear H
            replace hS := hS.below hb
            clear hb
            refine w_ret ?_
            obtain rfl := someE hm
            exact retR2 H83 rfl rfl rfl ⟨_, rfl, rfl, (hS.sel [] rfl)⟩
theorem math_bits_Div64_ok  (m : Nat) (hi_ : Int) (lo : Int) (y_ : Int) (r : Int × Int) (hm : math_bits_Div64 m hi_ lo y_ = some r) : Ret Tryd.prog 28 ⟨[.int .u64 hi_, .int .u64 lo, .int .u64 y_]⟩ (.tuple ⟨[.int .u64 r.1, .int .u64 r.2]⟩) := retP_of (Tryd.call28 _) (fun w h => math_bits_Div64_w F0 m   hi_ lo y_ r hm w h)

def fixed_Mul (m : Nat) (a_ : Int) (b_ : Int) : Option (Int × Int) :=
  Option.bind (fixed_check m ([a_, b_] : List Int)) fun y9 =>
  cond (y9 != 0) (
  some (0, y9)) (
  lt (if a_ < w64 (0 - a_) then w64 (0 - a_) else a_) fun x16 =>
  lt (if b_ < w64 (0 - b_) then w64 (0 - b_) else b_) fun x17 =>
  lt (math_bits_Mul64 (wu64 x16) (wu64 x17)) fun y18 =>
  Option.bind (
  cond (decide (y18.1 < 1000)) (
  Option.bind (math_bits_Div64 m y18.1 y18.2 1000) fun y26 =>
  cond (decide (y26.1 < 1000000000000)) (
  some (w64 y26.1)) (
  some 1000000000000)) (
  some 1000000000000)) fun (z23 : Int) =>
  Option.bind (
  lt (!((decide (a_ < 0)) == (decide (b_ < 0)))) fun x34 =>
  cond x34 (
  some (w64 (0 - z23))) (
  some z23)) fun (z33 : Int) =>
  some (z33, 0))
theorem fixed_Mul_w  (M : Av) (m : Nat) (a_ : Int) (b_ : Int) (r : Int × Int) (hm : fixed_Mul m a_ b_ = some r) (w : World) (hS : S0 M [] w) : Calls Tryd.prog 17 ⟨[.int .i64 a_, .int .i64 b_]⟩ w (fun e w' => ∃ v, e = .returned v ∧ v = .tuple ⟨[.int .i64 r.1, .int .i64 r.2]⟩ ∧ SH M (fpl []) w [] w') := by
  rw [fixed_Mul] at hm
  have hS0 : SH M (fpl []) w [] w := hS
  generalize hX : fpl [] = X at hS0 ⊢
  clear hS hX
  have hS := hS0
  clear hS0
  refine calls_entryP Tryd.func17 rfl Tryd.ntmps17 rfl fun _ H => ?_
  refine s_reg [] [0, 1] [(0, [], .int .i64 a_), (1, [], .int .i64 b_)] [] H (by kernel_rfl) trivial fun _ wd1 H2 hb => ?_
  clear H
  replace hS := hS.below hb
  clear hb
  refine w_seq ?_
  refine w_seq ?_
  refine wl_start ?_
  refine wl_batch 0 2 [] [0, 1, 12, 13] [(0, [], .int .i64 a_), (1, [], .int .i64 b_), (12, [], .int .i64 a_), (13, [], .int .i64 b_)] [] H2 (by decide) (by kernel_rfl) trivial fun _ wd3 H4 hb => ?_
  clear H2
  replace hS := hS.below hb
  clear hb
  have hd : S0 (AvL M []) [] _ := hS.hand [] [] rfl rfl
  refine m_stp [14, 0, 1] [(0, [], .int .i64 a_), (1, [], .int .i64 b_)] H4 rfl rfl rfl rfl (o_lit (T := (tI .i64)) (E := 2) (zv := .int .i64 0) [.int .i64 a_, .int .i64 b_] ([a_, b_] : List Int) [gL [], gL []] _ H4 hd rfl (by kernel_rfl) (by kernel_rfl) (by kernel_rfl) (by kernel_rfl) (by kernel_rfl) (by kernel_rfl) (by kernel_rfl) rfl (InnL.cons trivial (InnL.cons trivial InnL.nil))) (fun _ => rfl) fun _ wd7 v H8 hq => ?_
  clear H4 hd
  obtain ⟨g5, rfl, hq⟩ := hq
  replace hS : SH M X w [Ent.own 2 (tI .i64) ([a_, b_] : List Int) g5] _ := hS.join [] [] rfl rfl hq
  clear hq
  obtain ⟨y9, hy9, hm⟩ := bindE hm
  refine wl_batch 3 5 [(.int .i64 y9)] [0, 1, 6] [(0, [], .int .i64 a_), (1, [], .int .i64 b_), (6, [], .int .i64 y9)] [fun wz => RetB Tryd.prog 23 ⟨[.slice g5.a 2 g5.c]⟩ (.int .i64 y9) wz] H8 (by decide) (by kernel_rfl) ⟨(fixed_check_ok (g_l_ := g5) m _ _ hy9 _ (s0im s0nil (hS.osl 0 rfl))), trivial⟩ fun _ wd10 H11 hb => ?_
  clear H8
  replace hS := hS.below hb
  clear hb
  refine wl_end rfl ?_
  replace hS : SH M X w [] _ := hS.sel [] rfl
  refine s_reg [] [0, 1, 6, 17] [(0, [], .int .i64 a_), (1, [], .int .i64 b_), (6, [], .int .i64 y9), (17, [], .bool (y9 != 0))] [] H11 (by kernel_rfl) trivial fun _ wd12 H13 hb => ?_
  clear H11
  replace hS := hS.below hb
  clear hb
  refine w_if H13 rfl (fun hc => ?_) (fun hc => ?_)
  · replace hm := bT hc hm
    refine s_reg [] [4, 5] [(4, [], .int .i64 0), (5, [], .int .i64 y9)] [] H13 (by kernel_rfl) trivial fun _ wd14 H15 hb => ?_
    clear H13
    replace hS := hS.below hb
    clear hb
    refine w_ret ?_
    obtain rfl := someE hm
    exact retR2 H15 rfl rfl rfl ⟨_, rfl, rfl, (hS.sel [] rfl)⟩
  · replace hm := bF hc hm
    refine w_skip ?_
    obtain ⟨x16, hx16, hm⟩ := letE hm
    obtain ⟨x17, hx17, hm⟩ := letE hm
    obtain ⟨y18, hy18, hm⟩ := letE hm
    refine s_reg [(.tuple ⟨[.int .u64 y18.1, .int .u64 y18.2]⟩)] [0, 1, 7, 8] [(0, [], .int .i64 a_), (1, [], .int .i64 b_), (7, [], .int .u64 y18.1), (8, [], .int .u64 y18.2)] [fun wz => RetB Tryd.prog 27 ⟨[.int .u64 (wu64 x16), .int .u64 (wu64 x17)]⟩ (.tuple ⟨[.int .u64 y18.1, .int .u64 y18.2]⟩) wz] H13 (by subst hx16 hx17 hy18; kernel_rfl) ⟨((by rw [hy18]; exact (math_bits_Mul64_ok _ _).b)), trivial⟩ fun _ wd19 H20 hb => ?_
    clear H13
    replace hS := hS.below hb
    clear hb
    refine s_reg [] [0, 1, 7, 8, 9] [(0, [], .int .i64 a_), (1, [], .int .i64 b_), (7, [], .int .u64 y18.1), (8, [], .int .u64 y18.2), (9, [], .int .i64 1000000000000)] [] H20 (by kernel_rfl) trivial fun _ wd21 H22 hb => ?_
    clear H20
    replace hS := hS.below hb
    clear hb
    obtain ⟨z23, hz, hm⟩ := bindE hm
    refine w_cut (fun a' w' => Fr 53 [(0, [], .int .i64 a_), (1, [], .int .i64 b_), (9, [], .int .i64 z23)] a' ∧ SH M X w [] w') ?_ ?_
    · replace hm := hz
      refine s_reg [] [0, 1, 7, 8, 9, 34] [(0, [], .int .i64 a_), (1, [], .int .i64 b_), (7, [], .int .u64 y18.1), (8, [], .int .u64 y18.2), (9, [], .int .i64 1000000000000), (34, [], .bool (decide (y18.1 < 1000)))] [] H22 (by kernel_rfl) trivial fun _ wd24 H25 hb => ?_
      clear H22
      replace hS := hS.below hb
      clear hb
      refine w_if H25 rfl (fun hc => ?_) (fun hc => ?_)
      · replace hm := bT hc hm
        obtain ⟨y26, hy26, hm⟩ := bindE hm
        refine s_reg [(.tuple ⟨[.int .u64 y26.1, .int .u64 y26.2]⟩)] [0, 1, 9, 10] [(0, [], .int .i64 a_), (1, [], .int .i64 b_), (9, [], .int .i64 1000000000000), (10, [], .int .u64 y26.1)] [fun wz => RetB Tryd.prog 28 ⟨[.int .u64 y18.1, .int .u64 y18.2, .int .u64 1000]⟩ (.tuple ⟨[.int .u64 y26.1, .int .u64 y26.2]⟩) wz] H25 (by kernel_rfl) ⟨((math_bits_Div64_ok m _ _ _ _ hy26).b), trivial⟩ fun _ wd27 H28 hb => ?_
        clear H25
        replace hS := hS.below hb
        clear hb
        refine s_reg [] [0, 1, 9, 10, 42] [(0, [], .int .i64 a_), (1, [], .int .i64 b_), (9, [], .int .i64 1000000000000), (10, [], .int .u64 y26.1), (42, [], .bool (decide (y26.1 < 1000000000000)))] [] H28 (by kernel_rfl) trivial fun _ wd29 H30 hb => ?_
        clear H28
        replace hS := hS.below hb
        clear hb
        refine w_if H30 rfl (fun hc => ?_) (fun hc => ?_)
        · replace hm := bT hc hm
          refine w_reg [] [0, 1, 9] [(0, [], .int .i64 a_), (1, [], .int .i64 b_), (9, [], .int .i64 (w64 y26.1))] [] H30 (by kernel_rfl) trivial fun _ wd31 H32 hb => ?_
          clear H30
          replace hS := hS.below hb
          clear hb
          obtain rfl := someE hm
          exact ⟨Fr.keep (ks := [0, 1, 9]) H32 (by kernel_rfl), hS⟩
        · replace hm := bF hc hm
          refine w_skip ?_
          obtain rfl := someE hm
          exact ⟨Fr.keep (ks := [0, 1, 9]) H30 (by kernel_rfl), hS⟩
      · replace hm := bF hc hm
        refine w_skip ?_
        obtain rfl := someE hm
        exact ⟨Fr.keep (ks := [0, 1, 9]) H25 (by kernel_rfl), hS⟩
    · rintro _ wd42 ⟨H, hS⟩
      obtain ⟨z33, hz, hm⟩ := bindE hm
      refine w_cut (fun a' w' => Fr 53 [(9, [], .int .i64 z33)] a' ∧ SH M X w [] w') ?_ ?_
      · replace hm := hz
        obtain ⟨x34, hx34, hm⟩ := letE hm
        refine s_reg [] [9, 49] [(9, [], .int .i64 z23), (49, [], .bool x34)] [] H (by subst hx34; kernel_rfl) trivial fun _ wd35 H36 hb => ?_
        clear H
        replace hS := hS.below hb
        clear hb
        refine w_if H36 rfl (fun hc => ?_) (fun hc => ?_)
        · replace hm := bT hc hm
          refine w_reg [] [9] [(9, [], .int .i64 (w64 (0 - z23)))] [] H36 (by kernel_rfl) trivial fun _ wd37 H38 hb => ?_
          clear H36
          replace hS := hS.below hb
          clear hb
          obtain rfl := someE hm
          exact ⟨Fr.keep (ks := [9]) H38 (by kernel_rfl), hS⟩
        · replace hm := bF hc hm
          refine w_skip ?_
          obtain rfl := someE hm
          exact ⟨Fr.keep (ks := [9]) H36 (by kernel_rfl), hS⟩
      · rintro _ wd41 ⟨H, hS⟩
        refine s_reg [] [4, 5] [(4, [], .int .i64 z33), (5, [], .int .i64 0)] [] H (by kernel_rfl) trivial fun _ wd39 H40 hb => ?_
        clear H
        replace hS := hS.below hb
        clear hb
        refine w_ret ?_
        obtain rfl := someE hm
        exact retR2 H40 rfl rfl rfl ⟨_, rfl, rfl, (hS.sel [] rfl)⟩
theorem fixed_Mul_ok  (m : Nat) (a_ : Int) (b_ : Int) (r : Int × Int) (hm : fixed_Mul m a_ b_ = some r) : Ret Tryd.prog 17 ⟨[.int .i64 a_, .int .i64 b_]⟩ (.tuple ⟨[.int .i64 r.1, .int .i64 r.2]⟩) := retP_of (Tryd.call17 _) (fun w h => fixed_Mul_w F0 m   a_ b_ r hm w h)

def law06_times (m : Nat) (a_ : Int) (b_ : Int) (want : Int) : Option (Bool) :=
  Option.bind (fixed_Mul m a_ b_) fun y3 =>
  some (cond (y3.2 == 0) (y3.1 == want) false)
theorem law06_times_w  (M : Av) (m : Nat) (a_ : Int) (b_ : Int) (want : Int) (r : Bool) (hm : law06_times m a_ b_ want = some r) (w : World) (hS : S0 M [] w) : Calls Tryd.prog 19 ⟨[.int .i64 a_, .int .i64 b_, .int .i64 want]⟩ w (fun e w' => ∃ v, e = .returned v ∧ v = .bool r ∧ SH M (fpl []) w [] w') := by
  rw [law06_times] at hm
  have hS0 : SH M (fpl []) w [] w := hS
  generalize hX : fpl [] = X at hS0 ⊢
  clear hS hX
  have hS := hS0
  clear hS0
  refine calls_entryP Tryd.func19 rfl Tryd.ntmps19 rfl fun _ H => ?_
  refine s_reg [] [0, 1, 2] [(0, [], .int .i64 a_), (1, [], .int .i64 b_), (2, [], .int .i64 want)] [] H (by kernel_rfl) trivial fun _ wd1 H2 hb => ?_
  clear H
  replace hS := hS.below hb
  clear hb
  obtain ⟨y3, hy3, hm⟩ := bindE hm
  refine s_reg [(.tuple ⟨[.int .i64 y3.1, .int .i64 y3.2]⟩)] [2, 7, 8] [(2, [], .int .i64 want), (7, [], .int .i64 y3.1), (8, [], .int .i64 y3.2)] [fun wz => RetB Tryd.prog 17 ⟨[.int .i64 a_, .int .i64 b_]⟩ (.tuple ⟨[.int .i64 y3.1, .int .i64 y3.2]⟩) wz] H2 (by kernel_rfl) ⟨((fixed_Mul_ok m _ _ _ hy3).b), trivial⟩ fun _ wd4 H5 hb => ?_
  clear H2
  replace hS := hS.below hb
  clear hb
  refine s_reg [] [6] [(6, [], .bool (cond (y3.2 == 0) (y3.1 == want) false))] [] H5 (by kernel_rfl) trivial fun _ wd6 H7 hb => ?_
  clear H5
  replace hS := hS.below hb
  clear hb
  refine w_ret ?_
  obtain rfl := someE hm
  exact retR1 H7 rfl rfl ⟨_, rfl, rfl, (hS.sel [] rfl)⟩
theorem law06_times_ok  (m : Nat) (a_ : Int) (b_ : Int) (want : Int) (r : Bool) (hm : law06_times m a_ b_ want = some r) : Ret Tryd.prog 19 ⟨[.int .i64 a_, .int .i64 b_, .int .i64 want]⟩ (.bool r) := retP_of (Tryd.call19 _) (fun w h => law06_times_w F0 m   a_ b_ want r hm w h)

def law06_alive (m : Nat)  : Option (Bool) :=
  Option.bind (fixed_Sum m ([1000000000000, 5, (-5)] : List Int)) fun y7 =>
  Option.bind (law06_writes m 1500 [49, 46, 53]) fun y10 =>
  Option.bind (cond y10 (law06_writes m (-20) [45, 48, 46, 48, 50]) (some default)) fun y11 =>
  Option.bind (cond (cond y10 y11 false) (law06_writes m 0 [48]) (some default)) fun y12 =>
  Option.bind (cond (cond (cond y10 y11 false) y12 false) (law06_times m 1500 2500 3750) (some default)) fun y13 =>
  lt (cond (cond (cond y10 y11 false) y12 false) y13 false) fun x14 =>
  Option.bind (cond x14 (law06_times m 1 1 0) (some default)) fun y15 =>
  Option.bind (cond (cond x14 y15 false) (law06_times m 1000000000000 2000 1000000000000) (some default)) fun y16 =>
  lt (cond (cond (cond x14 y15 false) y16 false) (y7.2 == 0) false) fun x17 =>
  some (cond x17 (y7.1 == 999999999995) false)
theorem law06_alive_w  (M : Av) (m : Nat)  (r : Bool) (hm : law06_alive m = some r) (w : World) (hS : S0 M [] w) : Calls Tryd.prog 15 ⟨[]⟩ w (fun e w' => ∃ v, e = .returned v ∧ v = .bool r ∧ SH M (fpl []) w [] w') := by
  rw [law06_alive] at hm
  have hS0 : SH M (fpl []) w [] w := hS
  generalize hX : fpl [] = X at hS0 ⊢
  clear hS hX
  have hS := hS0
  clear hS0
  refine calls_entryP Tryd.func15 rfl Tryd.ntmps15 rfl fun _ H => ?_
  refine s_reg [] [] [] [] H (by kernel_rfl) trivial fun _ wd1 H2 hb => ?_
  clear H
  replace hS := hS.below hb
  clear hb
  refine w_seq ?_
  refine wl_start ?_
  have hd : S0 (AvL M []) [] _ := hS.hand [] [] rfl rfl
  refine m_stp [4] [] H2 rfl rfl rfl rfl (o_lit (T := (tI .i64)) (E := 2) (zv := .int .i64 0) [.int .i64 1000000000000, .int .i64 5, .int .i64 (-5)] ([1000000000000, 5, (-5)] : List Int) [gL [], gL [], gL []] _ H2 hd rfl (by kernel_rfl) (by kernel_rfl) (by kernel_rfl) (by kernel_rfl) (by kernel_rfl) (by kernel_rfl) (by kernel_rfl) rfl (InnL.cons trivial (InnL.cons trivial (InnL.cons trivial InnL.nil)))) (fun _ => rfl) fun _ wd5 v H6 hq => ?_
  clear H2 hd
  obtain ⟨g3, rfl, hq⟩ := hq
  replace hS : SH M X w [Ent.own 2 (tI .i64) ([1000000000000, 5, (-5)] : List Int) g3] _ := hS.join [] [] rfl rfl hq
  clear hq
  obtain ⟨y7, hy7, hm⟩ := bindE hm
  refine wl_batch 1 7 [(.tuple ⟨[.int .i64 y7.1, .int .i64 y7.2]⟩)] [1, 2] [(1, [], .int .i64 y7.1), (2, [], .int .i64 y7.2)] [fun wz => RetB Tryd.prog 16 ⟨[.slice g3.a 3 g3.c]⟩ (.tuple ⟨[.int .i64 y7.1, .int .i64 y7.2]⟩) wz] H6 (by decide) (by kernel_rfl) ⟨(fixed_Sum_ok (g_l_ := g3) m _ _ hy7 _ (s0im s0nil (hS.osl 0 rfl))), trivial⟩ fun _ wd8 H9 hb => ?_
  clear H6
  replace hS := hS.below hb
  clear hb
  refine wl_end rfl ?_
  replace hS : SH M X w [] _ := hS.sel [] rfl
  obtain ⟨y10, hy10, hm⟩ := bindE hm
  obtain ⟨y11, hy11, hm⟩ := bindE hm
  obtain ⟨y12, hy12, hm⟩ := bindE hm
  obtain ⟨y13, hy13, hm⟩ := bindE hm
  obtain ⟨x14, hx14, hm⟩ := letE hm
  obtain ⟨y15, hy15, hm⟩ := bindE hm
  obtain ⟨y16, hy16, hm⟩ := bindE hm
  obtain ⟨x17, hx17, hm⟩ := letE hm
  refine s_reg [(.bool y10), (.bool y11), (.bool y12), (.bool y13), (.bool y15), (.bool y16)] [0] [(0, [], .bool (cond x17 (y7.1 == 999999999995) false))] [fun wz => RetB Tryd.prog 20 ⟨[.int .i64 1500, .string ⟨⟨[49, 46, 53]⟩⟩]⟩ (.bool y10) wz, fun wz => (y10 = true ∧ True → RetB Tryd.prog 20 ⟨[.int .i64 (-20), .string ⟨⟨[45, 48, 46, 48, 50]⟩⟩]⟩ (.bool y11) wz), fun wz => ((cond y10 y11 false) = true ∧ True → RetB Tryd.prog 20 ⟨[.int .i64 0, .string ⟨⟨[48]⟩⟩]⟩ (.bool y12) wz), fun wz => ((cond (cond y10 y11 false) y12 false) = true ∧ True → RetB Tryd.prog 19 ⟨[.int .i64 1500, .int .i64 2500, .int .i64 3750]⟩ (.bool y13) wz), fun wz => (x14 = true ∧ True → RetB Tryd.prog 19 ⟨[.int .i64 1, .int .i64 1, .int .i64 0]⟩ (.bool y15) wz), fun wz => ((cond x14 y15 false) = true ∧ True → RetB Tryd.prog 19 ⟨[.int .i64 1000000000000, .int .i64 2000, .int .i64 1000000000000]⟩ (.bool y16) wz)] H9 (by subst hx14 hx17; kernel_rfl) ⟨((law06_writes_ok m _ _ _ hy10).b), fun hg => (law06_writes_ok m _ _ _ (bT (hg.1) hy11)).b, fun hg => (law06_writes_ok m _ _ _ (bT (hg.1) hy12)).b, fun hg => (law06_times_ok m _ _ _ _ (bT (hg.1) hy13)).b, fun hg => (law06_times_ok m _ _ _ _ (bT (hg.1) hy15)).b, fun hg => (law06_times_ok m _ _ _ _ (bT (hg.1) hy16)).b, trivial⟩ fun _ wd18 H19 hb => ?_
  clear H9
  replace hS := hS.below hb
  clear hb
  refine w_ret ?_
  obtain rfl := someE hm
  exact retR1 H19 rfl rfl ⟨_, rfl, rfl, (hS.sel [] rfl)⟩
theorem law06_alive_ok  (m : Nat)  (r : Bool) (hm : law06_alive m = some r) : Ret Tryd.prog 15 ⟨[]⟩ (.bool r) := retP_of (Tryd.call15 _) (fun w h => law06_alive_w F0 m    r hm w h)

def law06_FixedBack (m : Nat) (a_ : Int) (b_ : Int) : Option (Bool) :=
  cond (cond (!(r06_Is a_)) true (!(r06_Is b_))) (
  Option.bind (law06_alive m) fun y5 =>
  some y5) (
  Option.bind (fixed_Write m a_) fun y8 =>
  Option.bind (fixed_Write m b_) fun y11 =>
  Option.bind (fixed_Read m y8.1) fun y14 =>
  lt (cond (cond (y8.2 == 0) (y11.2 == 0) false) (y14.2 == 0) false) fun x17 =>
  lt (cond (cond x17 (y14.1 == a_) false) ((y8.1 == y11.1) == (a_ == b_)) false) fun x18 =>
  lt (cond (cond x18 (decide (1 ≤ (ln y8.1))) false) (decide ((ln y8.1) ≤ 15)) false) fun x19 =>
  Option.bind (cond x19 (law06_alive m) (some default)) fun y20 =>
  some (cond x19 y20 false))
theorem law06_FixedBack_w  (M : Av) (m : Nat) (a_ : Int) (b_ : Int) (r : Bool) (hm : law06_FixedBack m a_ b_ = some r) (w : World) (hS : S0 M [] w) : Calls Tryd.prog 4 ⟨[.int .i64 a_, .int .i64 b_]⟩ w (fun e w' => ∃ v, e = .returned v ∧ v = .bool r ∧ SH M (fpl []) w [] w') := by
  rw [law06_FixedBack] at hm
  have hS0 : SH M (fpl []) w [] w := hS
  generalize hX : fpl [] = X at hS0 ⊢
  clear hS hX
  have hS := hS0
  clear hS0
  refine calls_entryP Tryd.func4 rfl Tryd.ntmps4 rfl fun _ H => ?_
  refine s_reg [] [0, 1] [(0, [], .int .i64 a_), (1, [], .int .i64 b_)] [] H (by kernel_rfl) trivial fun _ wd1 H2 hb => ?_
  clear H
  replace hS := hS.below hb
  clear hb
  refine w_seq ?_
  refine s_reg [(.bool (r06_Is a_)), (.bool (r06_Is b_))] [0, 1, 18] [(0, [], .int .i64 a_), (1, [], .int .i64 b_), (18, [], .bool (cond (!(r06_Is a_)) true (!(r06_Is b_))))] [fun wz => RetB Tryd.prog 14 ⟨[.int .i64 a_]⟩ (.bool (r06_Is a_)) wz, fun wz => ((!(r06_Is a_)) = false ∧ True → RetB Tryd.prog 14 ⟨[.int .i64 b_]⟩ (.bool (r06_Is b_)) wz)] H2 (by kernel_rfl) ⟨((r06_Is_ok _).b), fun hg => (r06_Is_ok _).b, trivial⟩ fun _ wd3 H4 hb => ?_
  clear H2
  replace hS := hS.below hb
  clear hb
  refine w_if H4 rfl (fun hc => ?_) (fun hc => ?_)
  · replace hm := bT hc hm
    obtain ⟨y5, hy5, hm⟩ := bindE hm
    refine s_reg [(.bool y5)] [4] [(4, [], .bool y5)] [fun wz => RetB Tryd.prog 15 ⟨[]⟩ (.bool y5) wz] H4 (by kernel_rfl) ⟨((law06_alive_ok m _ hy5).b), trivial⟩ fun _ wd6 H7 hb => ?_
    clear H4
    replace hS := hS.below hb
    clear hb
    refine w_ret ?_
    obtain rfl := someE hm
    exact retR1 H7 rfl rfl ⟨_, rfl, rfl, (hS.sel [] rfl)⟩
  · replace hm := bF hc hm
    refine w_skip ?_
    obtain ⟨y8, hy8, hm⟩ := bindE hm
    refine s_reg [(.tuple ⟨[.string ⟨⟨y8.1⟩⟩, .int .i64 y8.2]⟩)] [0, 1, 5, 6] [(0, [], .int .i64 a_), (1, [], .int .i64 b_), (5, [], .string ⟨⟨y8.1⟩⟩), (6, [], .int .i64 y8.2)] [fun wz => RetB Tryd.prog 8 ⟨[.int .i64 a_]⟩ (.tuple ⟨[.string ⟨⟨y8.1⟩⟩, .int .i64 y8.2]⟩) wz] H4 (by kernel_rfl) ⟨((fixed_Write_ok m _ _ hy8).b), trivial⟩ fun _ wd9 H10 hb => ?_
    clear H4
    replace hS := hS.below hb
    clear hb
    obtain ⟨y11, hy11, hm⟩ := bindE hm
    refine s_reg [(.tuple ⟨[.string ⟨⟨y11.1⟩⟩, .int .i64 y11.2]⟩)] [0, 1, 5, 6, 7, 8] [(0, [], .int .i64 a_), (1, [], .int .i64 b_), (5, [], .string ⟨⟨y8.1⟩⟩), (6, [], .int .i64 y8.2), (7, [], .string ⟨⟨y11.1⟩⟩), (8, [], .int .i64 y11.2)] [fun wz => RetB Tryd.prog 8 ⟨[.int .i64 b_]⟩ (.tuple ⟨[.string ⟨⟨y11.1⟩⟩, .int .i64 y11.2]⟩) wz] H10 (by kernel_rfl) ⟨((fixed_Write_ok m _ _ hy11).b), trivial⟩ fun _ wd12 H13 hb => ?_
    clear H10
    replace hS := hS.below hb
    clear hb
    obtain ⟨y14, hy14, hm⟩ := bindE hm
    refine s_reg [(.tuple ⟨[.int .i64 y14.1, .int .i64 y14.2]⟩)] [0, 1, 5, 6, 7, 8, 9, 10] [(0, [], .int .i64 a_), (1, [], .int .i64 b_), (5, [], .string ⟨⟨y8.1⟩⟩), (6, [], .int .i64 y8.2), (7, [], .string ⟨⟨y11.1⟩⟩), (8, [], .int .i64 y11.2), (9, [], .int .i64 y14.1), (10, [], .int .i64 y14.2)] [fun wz => RetB Tryd.prog 6 ⟨[.string ⟨⟨y8.1⟩⟩]⟩ (.tuple ⟨[.int .i64 y14.1, .int .i64 y14.2]⟩) wz] H13 (by kernel_rfl) ⟨((fixed_Read_ok m _ _ hy14).b), trivial⟩ fun _ wd15 H16 hb => ?_
    clear H13
    replace hS := hS.below hb
    clear hb
    obtain ⟨x17, hx17, hm⟩ := letE hm
    obtain ⟨x18, hx18, hm⟩ := letE hm
    obtain ⟨x19, hx19, hm⟩ := letE hm
    obtain ⟨y20, hy20, hm⟩ := bindE hm
    refine s_reg [(.bool y20)] [4] [(4, [], .bool (cond x19 y20 false))] [fun wz => (x19 = true ∧ True → RetB Tryd.prog 15 ⟨[]⟩ (.bool y20) wz)] H16 (by subst hx17 hx18 hx19; kernel_rfl) ⟨fun hg => (law06_alive_ok m _ (bT (hg.1) hy20)).b, trivial⟩ fun _ wd21 H22 hb => ?_
    clear H16
    replace hS := hS.below hb
    clear hb
    refine w_ret ?_
    obtain rfl := someE hm
    exact retR1 H22 rfl rfl ⟨_, rfl, rfl, (hS.sel [] rfl)⟩
theorem law06_FixedBack_ok  (m : Nat) (a_ : Int) (b_ : Int) (r : Bool) (hm : law06_FixedBack m a_ b_ = some r) : Ret Tryd.prog 4 ⟨[.int .i64 a_, .int .i64 b_]⟩ (.bool r) := retP_of (Tryd.call4 _) (fun w h => law06_FixedBack_w F0 m   a_ b_ r hm w h)

def fixed_Within (m : Nat) (n_ : Int) (least : Int) (most : Int) : Option (Int × Int) :=
  Option.bind (fixed_check m ([n_, least, most] : List Int)) fun y9 =>
  cond (y9 != 0) (
  some (0, y9)) (
  cond (decide (most < least)) (
  some (0, 2)) (
  lt (if most < if n_ < least then least else n_ then most else if n_ < least then least else n_) fun x20 =>
  some (x20, 0)))
theorem fixed_Within_w  (M : Av) (m : Nat) (n_ : Int) (least : Int) (most : Int) (r : Int × Int) (hm : fixed_Within m n_ least most = some r) (w : World) (hS : S0 M [] w) : Calls Tryd.prog 18 ⟨[.int .i64 n_, .int .i64 least, .int .i64 most]⟩ w (fun e w' => ∃ v, e = .returned v ∧ v = .tuple ⟨[.int .i64 r.1, .int .i64 r.2]⟩ ∧ SH M (fpl []) w [] w') := by
  rw [fixed_Within] at hm
  have hS0 : SH M (fpl []) w [] w := hS
  generalize hX : fpl [] = X at hS0 ⊢
  clear hS hX
  have hS := hS0
  clear hS0
  refine calls_entryP Tryd.func18 rfl Tryd.ntmps18 rfl fun _ H => ?_
  refine s_reg [] [0, 1, 2] [(0, [], .int .i64 n_), (1, [], .int .i64 least), (2, [], .int .i64 most)] [] H (by kernel_rfl) trivial fun _ wd1 H2 hb => ?_
  clear H
  replace hS := hS.below hb
  clear hb
  refine w_seq ?_
  refine w_seq ?_
  refine wl_start ?_
  refine wl_batch 0 3 [] [0, 1, 2, 9, 10, 11] [(0, [], .int .i64 n_), (1, [], .int .i64 least), (2, [], .int .i64 most), (9, [], .int .i64 n_), (10, [], .int .i64 least), (11, [], .int .i64 most)] [] H2 (by decide) (by kernel_rfl) trivial fun _ wd3 H4 hb => ?_
  clear H2
  replace hS := hS.below hb
  clear hb
  have hd : S0 (AvL M []) [] _ := hS.hand [] [] rfl rfl
  refine m_stp [12, 0, 1, 2] [(0, [], .int .i64 n_), (1, [], .int .i64 least), (2, [], .int .i64 most)] H4 rfl rfl rfl rfl (o_lit (T := (tI .i64)) (E := 2) (zv := .int .i64 0) [.int .i64 n_, .int .i64 least, .int .i64 most] ([n_, least, most] : List Int) [gL [], gL [], gL []] _ H4 hd rfl (by kernel_rfl) (by kernel_rfl) (by kernel_rfl) (by kernel_rfl) (by kernel_rfl) (by kernel_rfl) (by kernel_rfl) rfl (InnL.cons trivial (InnL.cons trivial (InnL.cons trivial InnL.nil)))) (fun _ => rfl) fun _ wd7 v H8 hq => ?_
  clear H4 hd
  obtain ⟨g5, rfl, hq⟩ := hq
  replace hS : SH M X w [Ent.own 2 (tI .i64) ([n_, least, most] : List Int) g5] _ := hS.join [] [] rfl rfl hq
  clear hq
  obtain ⟨y9, hy9, hm⟩ := bindE hm
  refine wl_batch 4 6 [(.int .i64 y9)] [0, 1, 2, 8] [(0, [], .int .i64 n_), (1, [], .int .i64 least), (2, [], .int .i64 most), (8, [], .int .i64 y9)] [fun wz => RetB Tryd.prog 23 ⟨[.slice g5.a 3 g5.c]⟩ (.int .i64 y9) wz] H8 (by decide) (by kernel_rfl) ⟨(fixed_check_ok (g_l_ := g5) m _ _ hy9 _ (s0im s0nil (hS.osl 0 rfl))), trivial⟩ fun _ wd10 H11 hb => ?_
  clear H8
  replace hS := hS.below hb
  clear hb
  refine wl_end rfl ?_
  replace hS : SH M X w [] _ := hS.sel [] rfl
  refine s_reg [] [0, 1, 2, 8, 15] [(0, [], .int .i64 n_), (1, [], .int .i64 least), (2, [], .int .i64 most), (8, [], .int .i64 y9), (15, [], .bool (y9 != 0))] [] H11 (by kernel_rfl) trivial fun _ wd12 H13 hb => ?_
  clear H11
  replace hS := hS.below hb
  clear hb
  refine w_if H13 rfl (fun hc => ?_) (fun hc => ?_)
  · replace hm := bT hc hm
    refine s_reg [] [6, 7] [(6, [], .int .i64 0), (7, [], .int .i64 y9)] [] H13 (by kernel_rfl) trivial fun _ wd14 H15 hb => ?_
    clear H13
    replace hS := hS.below hb
    clear hb
    refine w_ret ?_
    obtain rfl := someE hm
    exact retR2 H15 rfl rfl rfl ⟨_, rfl, rfl, (hS.sel [] rfl)⟩
  · replace hm := bF hc hm
    refine w_skip ?_
    refine w_seq ?_
    refine s_reg [] [0, 1, 2, 19] [(0, [], .int .i64 n_), (1, [], .int .i64 least), (2, [], .int .i64 most), (19, [], .bool (decide (most < least)))] [] H13 (by kernel_rfl) trivial fun _ wd16 H17 hb => ?_
    clear H13
    replace hS := hS.below hb
    clear hb
    refine w_if H17 rfl (fun hc => ?_) (fun hc => ?_)
    · replace hm := bT hc hm
      refine s_reg [] [6, 7] [(6, [], .int .i64 0), (7, [], .int .i64 2)] [] H17 (by kernel_rfl) trivial fun _ wd18 H19 hb => ?_
      clear H17
      replace hS := hS.below hb
      clear hb
      refine w_ret ?_
      obtain rfl := someE hm
      exact retR2 H19 rfl rfl rfl ⟨_, rfl, rfl, (hS.sel [] rfl)⟩
    · replace hm := bF hc hm
      refine w_skip ?_
      obtain ⟨x20, hx20, hm⟩ := letE hm
      refine s_reg [] [6, 7] [(6, [], .int .i64 x20), (7, [], .int .i64 0)] [] H17 (by subst hx20; kernel_rfl) trivial fun _ wd21 H22 hb => ?_
      clear H17
      replace hS := hS.below hb
      clear hb
      refine w_ret ?_
      obtain rfl := someE hm
      exact retR2 H22 rfl rfl rfl ⟨_, rfl, rfl, (hS.sel [] rfl)⟩
theorem fixed_Within_ok  (m : Nat) (n_ : Int) (least : Int) (most : Int) (r : Int × Int) (hm : fixed_Within m n_ least most = some r) : Ret Tryd.prog 18 ⟨[.int .i64 n_, .int .i64 least, .int .i64 most]⟩ (.tuple ⟨[.int .i64 r.1, .int .i64 r.2]⟩) := retP_of (Tryd.call18 _) (fun w h => fixed_Within_w F0 m   n_ least most r hm w h)

def law06_FixedNames_L1 (m : Nat)  : Nat → Int → Option (Sum (Bool) (Unit))
  | 0, _ => none
  | kk + 1, v12 =>
    cond (decide (v12 < 4)) (
    chk (0 ≤ v12 ∧ v12 < ln ([1000000000001, (-1000000000001), 9223372036854775807, (-9223372036854775808)] : List Int)) <|
    lt ((gi ([1000000000001, (-1000000000001), 9223372036854775807, (-9223372036854775808)] : List Int) v12)) fun x16 =>
    Option.bind (fixed_Write m x16) fun y17 =>
    lt ((gi ([1000000000001, (-1000000000001), 9223372036854775807, (-9223372036854775808)] : List Int) v12)) fun x20 =>
    Option.bind (fixed_Sum m ([0, x20] : List Int)) fun y27 =>
    lt ((gi ([1000000000001, (-1000000000001), 9223372036854775807, (-9223372036854775808)] : List Int) v12)) fun x30 =>
    Option.bind (fixed_Mul m 0 x30) fun y31 =>
    lt ((gi ([1000000000001, (-1000000000001), 9223372036854775807, (-9223372036854775808)] : List Int) v12)) fun x34 =>
    Option.bind (fixed_Mul m x34 0) fun y35 =>
    lt ((gi ([1000000000001, (-1000000000001), 9223372036854775807, (-9223372036854775808)] : List Int) v12)) fun x38 =>
    Option.bind (fixed_Whole m x38) fun y39 =>
    lt ((gi ([1000000000001, (-1000000000001), 9223372036854775807, (-9223372036854775808)] : List Int) v12)) fun x42 =>
    Option.bind (fixed_Within m x42 1 0) fun y43 =>
    lt ((gi ([1000000000001, (-1000000000001), 9223372036854775807, (-9223372036854775808)] : List Int) v12)) fun x46 =>
    Option.bind (fixed_Within m 0 x46 0) fun y47 =>
    lt ((gi ([1000000000001, (-1000000000001), 9223372036854775807, (-9223372036854775808)] : List Int) v12)) fun x50 =>
    Option.bind (fixed_Check m x50) fun y51 =>
    lt (cond (cond (y51 != 8) true (y17.2 != 8)) true (y27.2 != 8)) fun x52 =>
    lt (cond (cond x52 true (y31.2 != 8)) true (y35.2 != 8)) fun x53 =>
    lt (cond (cond x53 true (y39.2 != 8)) true (y43.2 != 8)) fun x54 =>
    cond (cond x54 true (y47.2 != 8)) (
    some (.inl false)) (
    law06_FixedNames_L1 m  kk (w64 (v12 + 1)))) (
    some (.inr ()))
end Go.Proofs.YtbealjlgbfpadaaDoor
