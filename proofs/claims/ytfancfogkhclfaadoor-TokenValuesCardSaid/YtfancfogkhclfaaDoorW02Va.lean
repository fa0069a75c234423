/-
  What the Go functions compute, as Lean functions, and that a call returns just that. Printed by a program.
-/
import Derived.Test.YtfancfogkhclfaaDoorRows
import Derived.Test.YtfancfogkhclfaaDoorD
import Derived.Test.YtfancfogkhclfaaDoorX
set_option linter.unusedVariables false
set_option maxRecDepth 20000
set_option maxHeartbeats 4000000
namespace Go.Proofs.YtfancfogkhclfaaDoor
open Go.V Go.RowKit

def token_scanner_peek (c_s : Str) (c_at_ : Int) (n_ : Int) : Option (Int) :=
  cond (decide ((w64 (c_at_ + n_)) < (ln c_s))) (
  chk (0 ≤ (w64 (c_at_ + n_)) ∧ (w64 (c_at_ + n_)) < ln c_s) <|
  some (w64 (bat c_s (w64 (c_at_ + n_))))) (
  some (-1))
theorem token_scanner_peek_w {b_c : Nat} (M : Av) (c_s : Str) (c_at_ : Int) (n_ : Int) (r : Int) (hm : token_scanner_peek c_s c_at_ n_ = some r) (w : World) (hS : S0 M [Ent.ro b_c [.string ⟨⟨c_s⟩⟩, .int .i64 c_at_]] w) : Calls Tryd.prog 18 ⟨[.pointer (some ⟨b_c, 0, none⟩), .int .i64 n_]⟩ w (fun e w' => ∃ v, e = .returned v ∧ v = .int .i64 r ∧ SH M (fpl [Ent.ro b_c [.string ⟨⟨c_s⟩⟩, .int .i64 c_at_]]) w [] w') := by
  rw [token_scanner_peek] at hm
  have hS0 : SH M (fpl [Ent.ro b_c [.string ⟨⟨c_s⟩⟩, .int .i64 c_at_]]) w [Ent.ro b_c [.string ⟨⟨c_s⟩⟩, .int .i64 c_at_]] w := hS
  generalize hX : fpl [Ent.ro b_c [.string ⟨⟨c_s⟩⟩, .int .i64 c_at_]] = X at hS0 ⊢
  clear hS hX
  have hS := hS0
  clear hS0
  refine calls_entryP Tryd.func18 rfl Tryd.ntmps18 rfl fun _ H => ?_
  refine s_reg [] [0, 1] [(0, [], .pointer (some ⟨b_c, 0, none⟩)), (1, [], .int .i64 n_)] [] H (by kernel_rfl) trivial fun _ wd1 H2 hb => ?_
  clear H
  replace hS := hS.below hb
  clear hb
  refine w_seq ?_
  refine s_draw [(.int .i64 c_at_), (.string ⟨⟨c_s⟩⟩)] [0, 1, 16] [(0, [], .pointer (some ⟨b_c, 0, none⟩)), (1, [], .int .i64 n_), (16, [], .bool (decide ((w64 (c_at_ + n_)) < (ln c_s))))] [fun wz => V.at1 ⟨b_c, 1, none⟩ (.int .i64 c_at_) wz, fun wz => V.at1 ⟨b_c, 0, none⟩ (.string ⟨⟨c_s⟩⟩) wz] H2 (by kernel_rfl) (by kernel_rfl) (by kernel_rfl) ⟨((hS.ro 0 rfl).at1 rfl), ((hS.ro 0 rfl).at1 rfl), trivial⟩ fun _ wd3 H4 hb => ?_
  clear H2
  replace hS := hS.below hb
  clear hb
  refine w_if H4 rfl (fun hc => ?_) (fun hc => ?_)
  · replace hm := bT hc hm
    obtain ⟨ho5, hm⟩ := chkE hm
    refine s_draw [(.string ⟨⟨c_s⟩⟩), (.int .i64 c_at_)] [4] [(4, [], .int .i64 (w64 (bat c_s (w64 (c_at_ + n_)))))] [fun wz => V.at1 ⟨b_c, 0, none⟩ (.string ⟨⟨c_s⟩⟩) wz, fun wz => V.at1 ⟨b_c, 1, none⟩ (.int .i64 c_at_) wz, fun _ => 0 ≤ (w64 (c_at_ + n_)) ∧ (w64 (c_at_ + n_)) < ln c_s] H4 (by kernel_rfl) (by kernel_rfl) (by kernel_rfl) ⟨((hS.ro 0 rfl).at1 rfl), ((hS.ro 0 rfl).at1 rfl), ho5, trivial⟩ fun _ wd6 H7 hb => ?_
    clear H4
    replace hS := hS.below hb
    clear hb
    replace hS : SH M X w [] _ := hS.sel [] rfl
    refine w_ret ?_
    obtain rfl := someE hm
    exact retR1 H7 rfl rfl ⟨_, rfl, rfl, (hS.sel [] rfl)⟩
  · replace hm := bF hc hm
    refine w_skip ?_
    refine s_reg [] [4] [(4, [], .int .i64 (-1))] [] H4 (by kernel_rfl) trivial fun _ wd8 H9 hb => ?_
    clear H4
    replace hS := hS.below hb
    clear hb
    replace hS : SH M X w [] _ := hS.sel [] rfl
    refine w_ret ?_
    obtain rfl := someE hm
    exact retR1 H9 rfl rfl ⟨_, rfl, rfl, (hS.sel [] rfl)⟩
theorem token_scanner_peek_ok {b_c : Nat} (c_s : Str) (c_at_ : Int) (n_ : Int) (r : Int) (hm : token_scanner_peek c_s c_at_ n_ = some r) (w : World) (hL : S0 F0 [Ent.ro b_c [.string ⟨⟨c_s⟩⟩, .int .i64 c_at_]] w ∧ fpl [Ent.ro b_c [.string ⟨⟨c_s⟩⟩, .int .i64 c_at_]] = []) : RetB Tryd.prog 18 ⟨[.pointer (some ⟨b_c, 0, none⟩), .int .i64 n_]⟩ (.int .i64 r) w := retB_of hL (Tryd.call18 _) (fun w' h => token_scanner_peek_w F0   c_s c_at_ n_ r hm w' h)

def token_within (b_ : Int) (from_ : Int) (to : Int) : Bool :=
  lt (cond (decide (from_ ≤ b_)) (decide (b_ ≤ to)) false) fun x3 =>
  x3
theorem token_within_w  (M : Av) (b_ : Int) (from_ : Int) (to : Int) (r : Bool) (hm : token_within b_ from_ to = r) (w : World) (hS : S0 M [] w) : Calls Tryd.prog 35 ⟨[.int .i64 b_, .int .i64 from_, .int .i64 to]⟩ w (fun e w' => ∃ v, e = .returned v ∧ v = .bool r ∧ SH M (fpl []) w [] w') := by
  rw [token_within] at hm
  have hS0 : SH M (fpl []) w [] w := hS
  generalize hX : fpl [] = X at hS0 ⊢
  clear hS hX
  have hS := hS0
  clear hS0
  refine calls_entryP Tryd.func35 rfl Tryd.ntmps35 rfl fun _ H => ?_
  refine s_reg [] [0, 1, 2] [(0, [], .int .i64 b_), (1, [], .int .i64 from_), (2, [], .int .i64 to)] [] H (by kernel_rfl) trivial fun _ wd1 H2 hb => ?_
  clear H
  replace hS := hS.below hb
  clear hb
  obtain ⟨x3, hx3, hm⟩ := letE hm
  refine s_reg [] [6] [(6, [], .bool x3)] [] H2 (by subst hx3; kernel_rfl) trivial fun _ wd4 H5 hb => ?_
  clear H2
  replace hS := hS.below hb
  clear hb
  refine w_ret ?_
  subst hm
  exact retR1 H5 rfl rfl ⟨_, rfl, rfl, (hS.sel [] rfl)⟩
theorem token_within_ok  (b_ : Int) (from_ : Int) (to : Int) : Ret Tryd.prog 35 ⟨[.int .i64 b_, .int .i64 from_, .int .i64 to]⟩ (.bool (token_within b_ from_ to)) := retP_of (Tryd.call35 _) (fun w h => token_within_w F0   b_ from_ to _ rfl w h)

def token_digit (b_ : Int) : Bool :=
  (token_within b_ 48 57)
theorem token_digit_w  (M : Av) (b_ : Int) (r : Bool) (hm : token_digit b_ = r) (w : World) (hS : S0 M [] w) : Calls Tryd.prog 19 ⟨[.int .i64 b_]⟩ w (fun e w' => ∃ v, e = .returned v ∧ v = .bool r ∧ SH M (fpl []) w [] w') := by
  rw [token_digit] at hm
  have hS0 : SH M (fpl []) w [] w := hS
  generalize hX : fpl [] = X at hS0 ⊢
  clear hS hX
  have hS := hS0
  clear hS0
  refine calls_entryP Tryd.func19 rfl Tryd.ntmps19 rfl fun _ H => ?_
  refine s_reg [] [0] [(0, [], .int .i64 b_)] [] H (by kernel_rfl) trivial fun _ wd1 H2 hb => ?_
  clear H
  replace hS := hS.below hb
  clear hb
  refine s_reg [(.bool (token_within b_ 48 57))] [2] [(2, [], .bool (token_within b_ 48 57))] [fun wz => RetB Tryd.prog 35 ⟨[.int .i64 b_, .int .i64 48, .int .i64 57]⟩ (.bool (token_within b_ 48 57)) wz] H2 (by kernel_rfl) ⟨((token_within_ok _ _ _).b), trivial⟩ fun _ wd3 H4 hb => ?_
  clear H2
  replace hS := hS.below hb
  clear hb
  refine w_ret ?_
  subst hm
  exact retR1 H4 rfl rfl ⟨_, rfl, rfl, (hS.sel [] rfl)⟩
theorem token_digit_ok  (b_ : Int) : Ret Tryd.prog 19 ⟨[.int .i64 b_]⟩ (.bool (token_digit b_)) := retP_of (Tryd.call19 _) (fun w h => token_digit_w F0   b_ _ rfl w h)

def token_scanner_number (c_s : Str) (c_at_ : Int) : Option (Bool) :=
  Option.bind (
  Option.bind (token_scanner_peek c_s c_at_ 0) fun y6 =>
  cond (cond (y6 == 43) true (y6 == 45)) (
  some 1) (
  some 0)) fun (z5 : Int) =>
  Option.bind (
  Option.bind (token_scanner_peek c_s c_at_ z5) fun y14 =>
  cond (y14 == 46) (
  some (w64 (z5 + 1))) (
  some z5)) fun (z13 : Int) =>
  Option.bind (token_scanner_peek c_s c_at_ z13) fun y19 =>
  some (token_digit y19)
theorem token_scanner_number_w {b_c : Nat} (M : Av) (c_s : Str) (c_at_ : Int) (r : Bool) (hm : token_scanner_number c_s c_at_ = some r) (w : World) (hS : S0 M [Ent.ro b_c [.string ⟨⟨c_s⟩⟩, .int .i64 c_at_]] w) : Calls Tryd.prog 8 ⟨[.pointer (some ⟨b_c, 0, none⟩)]⟩ w (fun e w' => ∃ v, e = .returned v ∧ v = .bool r ∧ SH M (fpl [Ent.ro b_c [.string ⟨⟨c_s⟩⟩, .int .i64 c_at_]]) w [] w') := by
  rw [token_scanner_number] at hm
  have hS0 : SH M (fpl [Ent.ro b_c [.string ⟨⟨c_s⟩⟩, .int .i64 c_at_]]) w [Ent.ro b_c [.string ⟨⟨c_s⟩⟩, .int .i64 c_at_]] w := hS
  generalize hX : fpl [Ent.ro b_c [.string ⟨⟨c_s⟩⟩, .int .i64 c_at_]] = X at hS0 ⊢
  clear hS hX
  have hS := hS0
  clear hS0
  refine calls_entryP Tryd.func8 rfl Tryd.ntmps8 rfl fun _ H => ?_
  refine s_reg [] [0] [(0, [], .pointer (some ⟨b_c, 0, none⟩))] [] H (by kernel_rfl) trivial fun _ wd1 H2 hb => ?_
  clear H
  replace hS := hS.below hb
  clear hb
  refine s_reg [] [0, 3] [(0, [], .pointer (some ⟨b_c, 0, none⟩)), (3, [], .int .i64 0)] [] H2 (by kernel_rfl) trivial fun _ wd3 H4 hb => ?_
  clear H2
  replace hS := hS.below hb
  clear hb
  obtain ⟨z5, hz, hm⟩ := bindE hm
  refine w_cut (fun a' w' => Fr 25 [(0, [], .pointer (some ⟨b_c, 0, none⟩)), (3, [], .int .i64 z5)] a' ∧ SH M X w [Ent.ro b_c [.string ⟨⟨c_s⟩⟩, .int .i64 c_at_]] w') ?_ ?_
  · replace hm := hz
    obtain ⟨y6, hy6, hm⟩ := bindE hm
    refine s_reg [(.int .i64 y6)] [0, 3, 4] [(0, [], .pointer (some ⟨b_c, 0, none⟩)), (3, [], .int .i64 0), (4, [], .int .i64 y6)] [fun wz => RetB Tryd.prog 18 ⟨[.pointer (some ⟨b_c, 0, none⟩), .int .i64 0]⟩ (.int .i64 y6) wz] H4 (by kernel_rfl) ⟨(token_scanner_peek_ok (b_c := b_c) _ _ _ _ hy6 _ (s0ro s0nil (hS.ro 0 rfl))), trivial⟩ fun _ wd7 H8 hb => ?_
    clear H4
    replace hS := hS.below hb
    clear hb
    refine s_reg [] [0, 3, 12] [(0, [], .pointer (some ⟨b_c, 0, none⟩)), (3, [], .int .i64 0), (12, [], .bool (cond (y6 == 43) true (y6 == 45)))] [] H8 (by kernel_rfl) trivial fun _ wd9 H10 hb => ?_
    clear H8
    replace hS := hS.below hb
    clear hb
    refine w_if H10 rfl (fun hc => ?_) (fun hc => ?_)
    · replace hm := bT hc hm
      refine w_reg [] [0, 3] [(0, [], .pointer (some ⟨b_c, 0, none⟩)), (3, [], .int .i64 1)] [] H10 (by kernel_rfl) trivial fun _ wd11 H12 hb => ?_
      clear H10
      replace hS := hS.below hb
      clear hb
      obtain rfl := someE hm
      exact ⟨Fr.keep (ks := [0, 3]) H12 (by kernel_rfl), hS⟩
    · replace hm := bF hc hm
      refine w_skip ?_
      obtain rfl := someE hm
      exact ⟨Fr.keep (ks := [0, 3]) H10 (by kernel_rfl), hS⟩
  · rintro _ wd23 ⟨H, hS⟩
    obtain ⟨z13, hz, hm⟩ := bindE hm
    refine w_cut (fun a' w' => Fr 25 [(0, [], .pointer (some ⟨b_c, 0, none⟩)), (3, [], .int .i64 z13)] a' ∧ SH M X w [Ent.ro b_c [.string ⟨⟨c_s⟩⟩, .int .i64 c_at_]] w') ?_ ?_
    · replace hm := hz
      obtain ⟨y14, hy14, hm⟩ := bindE hm
      refine s_reg [(.int .i64 y14)] [0, 3, 18] [(0, [], .pointer (some ⟨b_c, 0, none⟩)), (3, [], .int .i64 z5), (18, [], .bool (y14 == 46))] [fun wz => RetB Tryd.prog 18 ⟨[.pointer (some ⟨b_c, 0, none⟩), .int .i64 z5]⟩ (.int .i64 y14) wz] H (by kernel_rfl) ⟨(token_scanner_peek_ok (b_c := b_c) _ _ _ _ hy14 _ (s0ro s0nil (hS.ro 0 rfl))), trivial⟩ fun _ wd15 H16 hb => ?_
      clear H
      replace hS := hS.below hb
      clear hb
      refine w_if H16 rfl (fun hc => ?_) (fun hc => ?_)
      · replace hm := bT hc hm
        refine w_reg [] [0, 3] [(0, [], .pointer (some ⟨b_c, 0, none⟩)), (3, [], .int .i64 (w64 (z5 + 1)))] [] H16 (by kernel_rfl) trivial fun _ wd17 H18 hb => ?_
        clear H16
        replace hS := hS.below hb
        clear hb
        obtain rfl := someE hm
        exact ⟨Fr.keep (ks := [0, 3]) H18 (by kernel_rfl), hS⟩
      · replace hm := bF hc hm
        refine w_skip ?_
        obtain rfl := someE hm
        exact ⟨Fr.keep (ks := [0, 3]) H16 (by kernel_rfl), hS⟩
    · rintro _ wd22 ⟨H, hS⟩
      obtain ⟨y19, hy19, hm⟩ := bindE hm
      refine s_reg [(.int .i64 y19), (.bool (token_digit y19))] [2] [(2, [], .bool (token_digit y19))] [fun wz => RetB Tryd.prog 18 ⟨[.pointer (some ⟨b_c, 0, none⟩), .int .i64 z13]⟩ (.int .i64 y19) wz, fun wz => RetB Tryd.prog 19 ⟨[.int .i64 y19]⟩ (.bool (token_digit y19)) wz] H (by kernel_rfl) ⟨(token_scanner_peek_ok (b_c := b_c) _ _ _ _ hy19 _ (s0ro s0nil (hS.ro 0 rfl))), ((token_digit_ok _).b), trivial⟩ fun _ wd20 H21 hb => ?_
      clear H
      replace hS := hS.below hb
      clear hb
      replace hS : SH M X w [] _ := hS.sel [] rfl
      refine w_ret ?_
      obtain rfl := someE hm
      exact retR1 H21 rfl rfl ⟨_, rfl, rfl, (hS.sel [] rfl)⟩
theorem token_scanner_number_ok {b_c : Nat} (c_s : Str) (c_at_ : Int) (r : Bool) (hm : token_scanner_number c_s c_at_ = some r) (w : World) (hL : S0 F0 [Ent.ro b_c [.string ⟨⟨c_s⟩⟩, .int .i64 c_at_]] w ∧ fpl [Ent.ro b_c [.string ⟨⟨c_s⟩⟩, .int .i64 c_at_]] = []) : RetB Tryd.prog 8 ⟨[.pointer (some ⟨b_c, 0, none⟩)]⟩ (.bool r) w := retB_of hL (Tryd.call8 _) (fun w' h => token_scanner_number_w F0   c_s c_at_ r hm w' h)

def token_scanner_while_L1 (m : Nat) (c_s : Str) : Nat → Int → Option (Int)
  | 0, _ => none
  | kk + 1, v1 =>
    Option.bind (token_scanner_peek c_s v1 0) fun y2 =>
    cond (token_digit y2) (
    token_scanner_while_L1 m c_s kk (w64 (v1 + 1))) (
    some v1)
def token_scanner_while (m : Nat) (c_s : Str) (c_at_ : Int) : Option (Int) :=
  token_scanner_while_L1 m c_s m c_at_
theorem token_scanner_while_w {b_c : Nat} (M : Av) (m : Nat) (c_s : Str) (c_at_ : Int) (r : Int) (hm : token_scanner_while m c_s c_at_ = some r) (w : World) (hS : S0 M [Ent.blk b_c [.string ⟨⟨c_s⟩⟩, .int .i64 c_at_]] w) : Calls Tryd.prog 20 ⟨[.pointer (some ⟨b_c, 0, none⟩), .func (.func 19) ⟨[]⟩ ⟨[]⟩]⟩ w (fun e w' => ∃ v, e = .returned v ∧ v = .tuple ⟨[]⟩ ∧ SH M (fpl [Ent.blk b_c [.string ⟨⟨c_s⟩⟩, .int .i64 c_at_]]) w [Ent.blk b_c [.string ⟨⟨c_s⟩⟩, .int .i64 r]] w') := by
  rw [token_scanner_while] at hm
  have hS0 : SH M (fpl [Ent.blk b_c [.string ⟨⟨c_s⟩⟩, .int .i64 c_at_]]) w [Ent.blk b_c [.string ⟨⟨c_s⟩⟩, .int .i64 c_at_]] w := hS
  generalize hX : fpl [Ent.blk b_c [.string ⟨⟨c_s⟩⟩, .int .i64 c_at_]] = X at hS0 ⊢
  clear hS hX
  have hS := hS0
  clear hS0
  refine calls_entryP Tryd.func20 rfl Tryd.ntmps20 rfl fun _ H => ?_
  refine w_block ?_
  refine w_loop (fun kk a' w' => ∃ (v1 : Int), token_scanner_while_L1 m c_s kk v1 = some _ ∧ Fr 15 [(0, [], .pointer (some ⟨b_c, 0, none⟩)), (1, [], .func (.func 19) ⟨[]⟩ ⟨[]⟩)] a' ∧ SH M X w [Ent.blk b_c [.string ⟨⟨c_s⟩⟩, .int .i64 v1]] w') ⟨_, c_at_, hm, Fr.keep (ks := [0, 1]) H (by kernel_rfl), hS⟩ ?_
  clear hm H hS
  rintro kk _ wd9 ⟨v1, hm, H, hS⟩
  cases kk with
  | zero => exact noneE hm
  | succ kk =>
    rw [token_scanner_while_L1] at hm
    refine w_seq ?_
    obtain ⟨y2, hy2, hm⟩ := bindE hm
    refine s_reg [(.int .i64 y2), (.bool (token_digit y2))] [0, 1, 7] [(0, [], .pointer (some ⟨b_c, 0, none⟩)), (1, [], .func (.func 19) ⟨[]⟩ ⟨[]⟩), (7, [], .bool (token_digit y2))] [fun wz => RetB Tryd.prog 18 ⟨[.pointer (some ⟨b_c, 0, none⟩), .int .i64 0]⟩ (.int .i64 y2) wz, fun wz => RetB Tryd.prog 19 ⟨[.int .i64 y2]⟩ (.bool (token_digit y2)) wz] H (by kernel_rfl) ⟨(token_scanner_peek_ok (b_c := b_c) _ _ _ _ hy2 _ (s0ro s0nil (hS.bk 0 rfl))), ((token_digit_ok _).b), trivial⟩ fun _ wd3 H4 hb => ?_
    clear H
    replace hS := hS.below hb
    clear hb
    refine w_if H4 rfl (fun hc => ?_) (fun hc => ?_)
    · replace hm := bT hc hm
      refine w_skip ?_
      refine w_block ?_
      refine wl_start ?_
      refine wl_batch 0 7 [(.int .i64 v1)] [0, 1, 12, 14] [(0, [], .pointer (some ⟨b_c, 0, none⟩)), (1, [], .func (.func 19) ⟨[]⟩ ⟨[]⟩), (12, [], .int .i64 (w64 (v1 + 1))), (14, [], .pointer (some ⟨b_c, 1, none⟩))] [fun wz => V.at1 ⟨b_c, 1, none⟩ (.int .i64 v1) wz] H4 (by decide) (by kernel_rfl) ⟨((hS.bk 0 rfl).at1 rfl), trivial⟩ fun _ wd5 H6 hb => ?_
      clear H4
      replace hS := hS.below hb
      clear hb
      have hd : S0 (AvL M []) [Ent.blk b_c [.string ⟨⟨c_s⟩⟩, .int .i64 v1]] _ := hS.hand [0] [] rfl rfl
      refine m_stp0 [0, 1] [(0, [], .pointer (some ⟨b_c, 0, none⟩)), (1, [], .func (.func 19) ⟨[]⟩ ⟨[]⟩)] H6 rfl rfl rfl (o_store [.string ⟨⟨c_s⟩⟩, .int .i64 (w64 (v1 + 1))] H6 hd rfl rfl (by kernel_rfl) rfl rfl rfl) rfl fun _ wd7 H8 hq => ?_
      clear H6 hd
      obtain ⟨_, hq⟩ := hq
      replace hS : SH M X w [Ent.blk b_c [.string ⟨⟨c_s⟩⟩, .int .i64 (w64 (v1 + 1))]] _ := hS.join [0] [] rfl rfl hq
      clear hq
      refine wl_end rfl ?_
      exact ⟨_, Nat.lt_succ_self _, w64 (v1 + 1), hm, Fr.keep (ks := [0, 1]) H8 (by kernel_rfl), hS⟩
    · replace hm := bF hc hm
      refine w_exit rfl ?_
      obtain rfl := someE hm
      try dsimp only
      exact retR0 H4 rfl ⟨_, rfl, rfl, (hS.sel [0] rfl)⟩
theorem token_scanner_while_ok {b_c : Nat} (m : Nat) (c_s : Str) (c_at_ : Int) (r : Int) (hm : token_scanner_while m c_s c_at_ = some r) (M : Av) (w : World) (hS : S0 M [Ent.blk b_c [.string ⟨⟨c_s⟩⟩, .int .i64 c_at_]] w) : DoesX Tryd.prog 20 ⟨[.pointer (some ⟨b_c, 0, none⟩), .func (.func 19) ⟨[]⟩ ⟨[]⟩]⟩ w (fun v w' => v = .tuple ⟨[]⟩ ∧ SH M (fpl [Ent.blk b_c [.string ⟨⟨c_s⟩⟩, .int .i64 c_at_]]) w [Ent.blk b_c [.string ⟨⟨c_s⟩⟩, .int .i64 r]] w') := ⟨Tryd.call20 _, token_scanner_while_w M m   c_s c_at_ r hm w hS⟩

def token_scanner_figures (m : Nat) (c_s : Str) (c_at_ : Int) : Option (Bool × Int) :=
  Option.bind (
  Option.bind (token_scanner_peek c_s c_at_ 0) fun y4 =>
  cond (cond (y4 == 43) true (y4 == 45)) (
  some (w64 (c_at_ + 1))) (
  some c_at_)) fun (z3 : Int) =>
  Option.bind (token_scanner_while m c_s z3) fun y15 =>
  Option.bind (
  Option.bind (token_scanner_peek c_s y15 0) fun y21 =>
  Option.bind (cond (y21 == 46) (token_scanner_peek c_s y15 1) (some default)) fun y22 =>
  cond (cond (y21 == 46) (token_digit y22) false) (
  Option.bind (token_scanner_while m c_s (w64 (y15 + 1))) fun y31 =>
  some (false, y31)) (
  some (true, y15))) fun (z20 : Bool × Int) =>
  Option.bind (
  Option.bind (token_scanner_peek c_s z20.2 0) fun y37 =>
  Option.bind (cond (y37 == 101) (some default) (token_scanner_peek c_s z20.2 0)) fun y38 =>
  cond (cond (y37 == 101) true (y38 == 69)) (
  Option.bind (
  Option.bind (token_scanner_peek c_s z20.2 1) fun y44 =>
  cond (cond (y44 == 43) true (y44 == 45)) (
  some 2) (
  some 1)) fun (z43 : Int) =>
  Option.bind (token_scanner_peek c_s z20.2 z43) fun y51 =>
  cond (token_digit y51) (
  Option.bind (token_scanner_while m c_s (w64 (z20.2 + z43))) fun y60 =>
  some (false, y60)) (
  some (z20.1, z20.2))) (
  some (z20.1, z20.2))) fun (z36 : Bool × Int) =>
  some (z36.1, z36.2)
theorem token_scanner_figures_w {b_c : Nat} (M : Av) (m : Nat) (c_s : Str) (c_at_ : Int) (r : Bool × Int) (hm : token_scanner_figures m c_s c_at_ = some r) (w : World) (hS : S0 M [Ent.blk b_c [.string ⟨⟨c_s⟩⟩, .int .i64 c_at_]] w) : Calls Tryd.prog 9 ⟨[.pointer (some ⟨b_c, 0, none⟩)]⟩ w (fun e w' => ∃ v, e = .returned v ∧ v = .bool r.1 ∧ SH M (fpl [Ent.blk b_c [.string ⟨⟨c_s⟩⟩, .int .i64 c_at_]]) w [Ent.blk b_c [.string ⟨⟨c_s⟩⟩, .int .i64 r.2]] w') := by
  rw [token_scanner_figures] at hm
  have hS0 : SH M (fpl [Ent.blk b_c [.string ⟨⟨c_s⟩⟩, .int .i64 c_at_]]) w [Ent.blk b_c [.string ⟨⟨c_s⟩⟩, .int .i64 c_at_]] w := hS
  generalize hX : fpl [Ent.blk b_c [.string ⟨⟨c_s⟩⟩, .int .i64 c_at_]] = X at hS0 ⊢
  clear hS hX
  have hS := hS0
  clear hS0
  refine calls_entryP Tryd.func9 rfl Tryd.ntmps9 rfl fun _ H => ?_
  refine s_reg [] [0] [(0, [], .pointer (some ⟨b_c, 0, none⟩))] [] H (by kernel_rfl) trivial fun _ wd1 H2 hb => ?_
  clear H
  replace hS := hS.below hb
  clear hb
  obtain ⟨z3, hz, hm⟩ := bindE hm
  refine w_cut (fun a' w' => Fr 74 [(0, [], .pointer (some ⟨b_c, 0, none⟩))] a' ∧ SH M X w [Ent.blk b_c [.string ⟨⟨c_s⟩⟩, .int .i64 z3]] w') ?_ ?_
  · replace hm := hz
    obtain ⟨y4, hy4, hm⟩ := bindE hm
    refine s_reg [(.int .i64 y4)] [0, 3] [(0, [], .pointer (some ⟨b_c, 0, none⟩)), (3, [], .int .i64 y4)] [fun wz => RetB Tryd.prog 18 ⟨[.pointer (some ⟨b_c, 0, none⟩), .int .i64 0]⟩ (.int .i64 y4) wz] H2 (by kernel_rfl) ⟨(token_scanner_peek_ok (b_c := b_c) _ _ _ _ hy4 _ (s0ro s0nil (hS.bk 0 rfl))), trivial⟩ fun _ wd5 H6 hb => ?_
    clear H2
    replace hS := hS.below hb
    clear hb
    refine s_reg [] [0, 14] [(0, [], .pointer (some ⟨b_c, 0, none⟩)), (14, [], .bool (cond (y4 == 43) true (y4 == 45)))] [] H6 (by kernel_rfl) trivial fun _ wd7 H8 hb => ?_
    clear H6
    replace hS := hS.below hb
    clear hb
    refine w_if H8 rfl (fun hc => ?_) (fun hc => ?_)
    · replace hm := bT hc hm
      refine wl_start ?_
      refine wl_batch 0 7 [(.int .i64 c_at_)] [0, 19, 21] [(0, [], .pointer (some ⟨b_c, 0, none⟩)), (19, [], .int .i64 (w64 (c_at_ + 1))), (21, [], .pointer (some ⟨b_c, 1, none⟩))] [fun wz => V.at1 ⟨b_c, 1, none⟩ (.int .i64 c_at_) wz] H8 (by decide) (by kernel_rfl) ⟨((hS.bk 0 rfl).at1 rfl), trivial⟩ fun _ wd9 H10 hb => ?_
      clear H8
      replace hS := hS.below hb
      clear hb
      have hd : S0 (AvL M []) [Ent.blk b_c [.string ⟨⟨c_s⟩⟩, .int .i64 c_at_]] _ := hS.hand [0] [] rfl rfl
      refine m_stp0 [0] [(0, [], .pointer (some ⟨b_c, 0, none⟩))] H10 rfl rfl rfl (o_store [.string ⟨⟨c_s⟩⟩, .int .i64 (w64 (c_at_ + 1))] H10 hd rfl rfl (by kernel_rfl) rfl rfl rfl) rfl fun _ wd11 H12 hq => ?_
      clear H10 hd
      obtain ⟨_, hq⟩ := hq
      replace hS : SH M X w [Ent.blk b_c [.string ⟨⟨c_s⟩⟩, .int .i64 (w64 (c_at_ + 1))]] _ := hS.join [0] [] rfl rfl hq
      clear hq
      refine wl_end rfl ?_
      obtain rfl := someE hm
      exact ⟨Fr.keep (ks := [0]) H12 (by kernel_rfl), hS⟩
    · replace hm := bF hc hm
      refine w_skip ?_
      obtain rfl := someE hm
      exact ⟨Fr.keep (ks := [0]) H8 (by kernel_rfl), hS⟩
  · rintro _ wd70 ⟨H, hS⟩
    refine w_seq ?_
    refine wl_start ?_
    refine wl_batch 0 1 [] [0, 22] [(0, [], .pointer (some ⟨b_c, 0, none⟩)), (22, [], .pointer (some ⟨b_c, 0, none⟩))] [] H (by decide) (by kernel_rfl) trivial fun _ wd13 H14 hb => ?_
    clear H
    replace hS := hS.below hb
    clear hb
    obtain ⟨y15, hy15, hm⟩ := bindE hm
    have hd : S0 (AvL M []) [Ent.blk b_c [.string ⟨⟨c_s⟩⟩, .int .i64 z3]] _ := hS.hand [0] [] rfl rfl
    refine m_stp [23, 0] [(0, [], .pointer (some ⟨b_c, 0, none⟩))] H14 rfl rfl rfl rfl (o_callx H14 rfl rfl (token_scanner_while_ok (b_c := b_c) m _ _ _ hy15 _ _ hd)) (fun _ => rfl) fun _ wd16 v H17 hq => ?_
    clear H14 hd
    obtain ⟨rfl, hq⟩ := hq
    replace hS : SH M X w [Ent.blk b_c [.string ⟨⟨c_s⟩⟩, .int .i64 y15]] _ := hS.join [0] [] rfl rfl hq
    clear hq
    refine wl_end rfl ?_
    refine s_reg [] [0, 4] [(0, [], .pointer (some ⟨b_c, 0, none⟩)), (4, [], .bool true)] [] H17 (by kernel_rfl) trivial fun _ wd18 H19 hb => ?_
    clear H17
    replace hS := hS.below hb
    clear hb
    obtain ⟨z20, hz, hm⟩ := bindE hm
    refine w_cut (fun a' w' => Fr 74 [(0, [], .pointer (some ⟨b_c, 0, none⟩)), (4, [], .bool z20.1)] a' ∧ SH M X w [Ent.blk b_c [.string ⟨⟨c_s⟩⟩, .int .i64 z20.2]] w') ?_ ?_
    · replace hm := hz
      obtain ⟨y21, hy21, hm⟩ := bindE hm
      obtain ⟨y22, hy22, hm⟩ := bindE hm
      refine s_reg [(.int .i64 y21), (.int .i64 y22), (.bool (token_digit y22))] [0, 4, 31] [(0, [], .pointer (some ⟨b_c, 0, none⟩)), (4, [], .bool true), (31, [], .bool (cond (y21 == 46) (token_digit y22) false))] [fun wz => RetB Tryd.prog 18 ⟨[.pointer (some ⟨b_c, 0, none⟩), .int .i64 0]⟩ (.int .i64 y21) wz, fun wz => ((y21 == 46) = true ∧ True → RetB Tryd.prog 18 ⟨[.pointer (some ⟨b_c, 0, none⟩), .int .i64 1]⟩ (.int .i64 y22) wz), fun wz => ((y21 == 46) = true ∧ True → RetB Tryd.prog 19 ⟨[.int .i64 y22]⟩ (.bool (token_digit y22)) wz)] H19 (by kernel_rfl) ⟨(token_scanner_peek_ok (b_c := b_c) _ _ _ _ hy21 _ (s0ro s0nil (hS.bk 0 rfl))), fun hg => token_scanner_peek_ok (b_c := b_c) _ _ _ _ (bT (hg.1) hy22) _ (s0ro s0nil (hS.bk 0 rfl)), fun hg => (token_digit_ok _).b, trivial⟩ fun _ wd23 H24 hb => ?_
      clear H19
      replace hS := hS.below hb
      clear hb
      refine w_if H24 rfl (fun hc => ?_) (fun hc => ?_)
      · replace hm := bT hc hm
        refine w_seq ?_
        refine wl_start ?_
        refine wl_batch 0 7 [(.int .i64 y15)] [0, 36, 38] [(0, [], .pointer (some ⟨b_c, 0, none⟩)), (36, [], .int .i64 (w64 (y15 + 1))), (38, [], .pointer (some ⟨b_c, 1, none⟩))] [fun wz => V.at1 ⟨b_c, 1, none⟩ (.int .i64 y15) wz] H24 (by decide) (by kernel_rfl) ⟨((hS.bk 0 rfl).at1 rfl), trivial⟩ fun _ wd25 H26 hb => ?_
        clear H24
        replace hS := hS.below hb
        clear hb
        have hd : S0 (AvL M []) [Ent.blk b_c [.string ⟨⟨c_s⟩⟩, .int .i64 y15]] _ := hS.hand [0] [] rfl rfl
        refine m_stp0 [0] [(0, [], .pointer (some ⟨b_c, 0, none⟩))] H26 rfl rfl rfl (o_store [.string ⟨⟨c_s⟩⟩, .int .i64 (w64 (y15 + 1))] H26 hd rfl rfl (by kernel_rfl) rfl rfl rfl) rfl fun _ wd27 H28 hq => ?_
        clear H26 hd
        obtain ⟨_, hq⟩ := hq
        replace hS : SH M X w [Ent.blk b_c [.string ⟨⟨c_s⟩⟩, .int .i64 (w64 (y15 + 1))]] _ := hS.join [0] [] rfl rfl hq
        clear hq
        refine wl_end rfl ?_
        refine w_seq ?_
        refine wl_start ?_
        refine wl_batch 0 1 [] [0, 39] [(0, [], .pointer (some ⟨b_c, 0, none⟩)), (39, [], .pointer (some ⟨b_c, 0, none⟩))] [] H28 (by decide) (by kernel_rfl) trivial fun _ wd29 H30 hb => ?_
        clear H28
        replace hS := hS.below hb
        clear hb
        obtain ⟨y31, hy31, hm⟩ := bindE hm
        have hd : S0 (AvL M []) [Ent.blk b_c [.string ⟨⟨c_s⟩⟩, .int .i64 (w64 (y15 + 1))]] _ := hS.hand [0] [] rfl rfl
        refine m_stp [40, 0] [(0, [], .pointer (some ⟨b_c, 0, none⟩))] H30 rfl rfl rfl rfl (o_callx H30 rfl rfl (token_scanner_while_ok (b_c := b_c) m _ _ _ hy31 _ _ hd)) (fun _ => rfl) fun _ wd32 v H33 hq => ?_
        clear H30 hd
        obtain ⟨rfl, hq⟩ := hq
        replace hS : SH M X w [Ent.blk b_c [.string ⟨⟨c_s⟩⟩, .int .i64 y31]] _ := hS.join [0] [] rfl rfl hq
        clear hq
        refine wl_end rfl ?_
        refine w_reg [] [0, 4] [(0, [], .pointer (some ⟨b_c, 0, none⟩)), (4, [], .bool false)] [] H33 (by kernel_rfl) trivial fun _ wd34 H35 hb => ?_
        clear H33
        replace hS := hS.below hb
        clear hb
        obtain rfl := someE hm
        exact ⟨Fr.keep (ks := [0, 4]) H35 (by kernel_rfl), hS⟩
      · replace hm := bF hc hm
        refine w_skip ?_
        obtain rfl := someE hm
        exact ⟨Fr.keep (ks := [0, 4]) H24 (by kernel_rfl), hS⟩
    · rintro _ wd69 ⟨H, hS⟩
      obtain ⟨z36, hz, hm⟩ := bindE hm
      refine w_cut (fun a' w' => Fr 74 [(4, [], .bool z36.1)] a' ∧ SH M X w [Ent.blk b_c [.string ⟨⟨c_s⟩⟩, .int .i64 z36.2]] w') ?_ ?_
      · replace hm := hz
        obtain ⟨y37, hy37, hm⟩ := bindE hm
        obtain ⟨y38, hy38, hm⟩ := bindE hm
        refine s_reg [(.int .i64 y37), (.int .i64 y38)] [0, 4, 48] [(0, [], .pointer (some ⟨b_c, 0, none⟩)), (4, [], .bool z20.1), (48, [], .bool (cond (y37 == 101) true (y38 == 69)))] [fun wz => RetB Tryd.prog 18 ⟨[.pointer (some ⟨b_c, 0, none⟩), .int .i64 0]⟩ (.int .i64 y37) wz, fun wz => ((y37 == 101) = false ∧ True → RetB Tryd.prog 18 ⟨[.pointer (some ⟨b_c, 0, none⟩), .int .i64 0]⟩ (.int .i64 y38) wz)] H (by kernel_rfl) ⟨(token_scanner_peek_ok (b_c := b_c) _ _ _ _ hy37 _ (s0ro s0nil (hS.bk 0 rfl))), fun hg => token_scanner_peek_ok (b_c := b_c) _ _ _ _ (bF (hg.1) hy38) _ (s0ro s0nil (hS.bk 0 rfl)), trivial⟩ fun _ wd39 H40 hb => ?_
        clear H
        replace hS := hS.below hb
        clear hb
        refine w_if H40 rfl (fun hc => ?_) (fun hc => ?_)
        · replace hm := bT hc hm
          refine s_reg [] [0, 4, 5] [(0, [], .pointer (some ⟨b_c, 0, none⟩)), (4, [], .bool z20.1), (5, [], .int .i64 1)] [] H40 (by kernel_rfl) trivial fun _ wd41 H42 hb => ?_
          clear H40
          replace hS := hS.below hb
          clear hb
          obtain ⟨z43, hz, hm⟩ := bindE hm
          refine w_cut (fun a' w' => Fr 74 [(0, [], .pointer (some ⟨b_c, 0, none⟩)), (4, [], .bool z20.1), (5, [], .int .i64 z43)] a' ∧ SH M X w [Ent.blk b_c [.string ⟨⟨c_s⟩⟩, .int .i64 z20.2]] w') ?_ ?_
          · replace hm := hz
            obtain ⟨y44, hy44, hm⟩ := bindE hm
            refine s_reg [(.int .i64 y44)] [0, 4, 5, 6] [(0, [], .pointer (some ⟨b_c, 0, none⟩)), (4, [], .bool z20.1), (5, [], .int .i64 1), (6, [], .int .i64 y44)] [fun wz => RetB Tryd.prog 18 ⟨[.pointer (some ⟨b_c, 0, none⟩), .int .i64 1]⟩ (.int .i64 y44) wz] H42 (by kernel_rfl) ⟨(token_scanner_peek_ok (b_c := b_c) _ _ _ _ hy44 _ (s0ro s0nil (hS.bk 0 rfl))), trivial⟩ fun _ wd45 H46 hb => ?_
            clear H42
            replace hS := hS.below hb
            clear hb
            refine s_reg [] [0, 4, 5, 56] [(0, [], .pointer (some ⟨b_c, 0, none⟩)), (4, [], .bool z20.1), (5, [], .int .i64 1), (56, [], .bool (cond (y44 == 43) true (y44 == 45)))] [] H46 (by kernel_rfl) trivial fun _ wd47 H48 hb => ?_
            clear H46
            replace hS := hS.below hb
            clear hb
            refine w_if H48 rfl (fun hc => ?_) (fun hc => ?_)
            · replace hm := bT hc hm
              refine w_reg [] [0, 4, 5] [(0, [], .pointer (some ⟨b_c, 0, none⟩)), (4, [], .bool z20.1), (5, [], .int .i64 2)] [] H48 (by kernel_rfl) trivial fun _ wd49 H50 hb => ?_
              clear H48
              replace hS := hS.below hb
              clear hb
              obtain rfl := someE hm
              exact ⟨Fr.keep (ks := [0, 4, 5]) H50 (by kernel_rfl), hS⟩
            · replace hm := bF hc hm
              refine w_skip ?_
              obtain rfl := someE hm
              exact ⟨Fr.keep (ks := [0, 4, 5]) H48 (by kernel_rfl), hS⟩
          · rintro _ wd65 ⟨H, hS⟩
            obtain ⟨y51, hy51, hm⟩ := bindE hm
            refine s_reg [(.int .i64 y51), (.bool (token_digit y51))] [0, 4, 5, 62] [(0, [], .pointer (some ⟨b_c, 0, none⟩)), (4, [], .bool z20.1), (5, [], .int .i64 z43), (62, [], .bool (token_digit y51))] [fun wz => RetB Tryd.prog 18 ⟨[.pointer (some ⟨b_c, 0, none⟩), .int .i64 z43]⟩ (.int .i64 y51) wz, fun wz => RetB Tryd.prog 19 ⟨[.int .i64 y51]⟩ (.bool (token_digit y51)) wz] H (by kernel_rfl) ⟨(token_scanner_peek_ok (b_c := b_c) _ _ _ _ hy51 _ (s0ro s0nil (hS.bk 0 rfl))), ((token_digit_ok _).b), trivial⟩ fun _ wd52 H53 hb => ?_
            clear H
            replace hS := hS.below hb
            clear hb
            refine w_if H53 rfl (fun hc => ?_) (fun hc => ?_)
            · replace hm := bT hc hm
              refine w_seq ?_
              refine wl_start ?_
              refine wl_batch 0 8 [(.int .i64 z20.2)] [0, 68, 70] [(0, [], .pointer (some ⟨b_c, 0, none⟩)), (68, [], .int .i64 (w64 (z20.2 + z43))), (70, [], .pointer (some ⟨b_c, 1, none⟩))] [fun wz => V.at1 ⟨b_c, 1, none⟩ (.int .i64 z20.2) wz] H53 (by decide) (by kernel_rfl) ⟨((hS.bk 0 rfl).at1 rfl), trivial⟩ fun _ wd54 H55 hb => ?_
              clear H53
              replace hS := hS.below hb
              clear hb
              have hd : S0 (AvL M []) [Ent.blk b_c [.string ⟨⟨c_s⟩⟩, .int .i64 z20.2]] _ := hS.hand [0] [] rfl rfl
              refine m_stp0 [0] [(0, [], .pointer (some ⟨b_c, 0, none⟩))] H55 rfl rfl rfl (o_store [.string ⟨⟨c_s⟩⟩, .int .i64 (w64 (z20.2 + z43))] H55 hd rfl rfl (by kernel_rfl) rfl rfl rfl) rfl fun _ wd56 H57 hq => ?_
              clear H55 hd
              obtain ⟨_, hq⟩ := hq
              replace hS : SH M X w [Ent.blk b_c [.string ⟨⟨c_s⟩⟩, .int .i64 (w64 (z20.2 + z43))]] _ := hS.join [0] [] rfl rfl hq
              clear hq
              refine wl_end rfl ?_
              refine w_seq ?_
              refine wl_start ?_
              refine wl_batch 0 1 [] [71] [(71, [], .pointer (some ⟨b_c, 0, none⟩))] [] H57 (by decide) (by kernel_rfl) trivial fun _ wd58 H59 hb => ?_
              clear H57
              replace hS := hS.below hb
              clear hb
              obtain ⟨y60, hy60, hm⟩ := bindE hm
              have hd : S0 (AvL M []) [Ent.blk b_c [.string ⟨⟨c_s⟩⟩, .int .i64 (w64 (z20.2 + z43))]] _ := hS.hand [0] [] rfl rfl
              refine m_stp [72] [] H59 rfl rfl rfl rfl (o_callx H59 rfl rfl (token_scanner_while_ok (b_c := b_c) m _ _ _ hy60 _ _ hd)) (fun _ => rfl) fun _ wd61 v H62 hq => ?_
              clear H59 hd
              obtain ⟨rfl, hq⟩ := hq
              replace hS : SH M X w [Ent.blk b_c [.string ⟨⟨c_s⟩⟩, .int .i64 y60]] _ := hS.join [0] [] rfl rfl hq
              clear hq
              refine wl_end rfl ?_
              refine w_reg [] [4] [(4, [], .bool false)] [] H62 (by kernel_rfl) trivial fun _ wd63 H64 hb => ?_
              clear H62
              replace hS := hS.below hb
              clear hb
              obtain rfl := someE hm
              exact ⟨Fr.keep (ks := [4]) H64 (by kernel_rfl), hS⟩
            · replace hm := bF hc hm
              refine w_skip ?_
              obtain rfl := someE hm
              exact ⟨Fr.keep (ks := [4]) H53 (by kernel_rfl), hS⟩
        · replace hm := bF hc hm
          refine w_skip ?_
          obtain rfl := someE hm
          exact ⟨Fr.keep (ks := [4]) H40 (by kernel_rfl), hS⟩
      · rintro _ wd68 ⟨H, hS⟩
        refine s_reg [] [2] [(2, [], .bool z36.1)] [] H (by kernel_rfl) trivial fun _ wd66 H67 hb => ?_
        clear H
        replace hS := hS.below hb
        clear hb
        refine w_ret ?_
        obtain rfl := someE hm
        exact retR1 H67 rfl rfl ⟨_, rfl, rfl, (hS.sel [0] rfl)⟩
theorem token_scanner_figures_ok {b_c : Nat} (m : Nat) (c_s : Str) (c_at_ : Int) (r : Bool × Int) (hm : token_scanner_figures m c_s c_at_ = some r) (M : Av) (w : World) (hS : S0 M [Ent.blk b_c [.string ⟨⟨c_s⟩⟩, .int .i64 c_at_]] w) : DoesX Tryd.prog 9 ⟨[.pointer (some ⟨b_c, 0, none⟩)]⟩ w (fun v w' => v = .bool r.1 ∧ SH M (fpl [Ent.blk b_c [.string ⟨⟨c_s⟩⟩, .int .i64 c_at_]]) w [Ent.blk b_c [.string ⟨⟨c_s⟩⟩, .int .i64 r.2]] w') := ⟨Tryd.call9 _, token_scanner_figures_w M m   c_s c_at_ r hm w hS⟩

def x_strings_TrimLeft (x0 : Str) (x1 : Str) : Option Str := chk (ascB x1 = true ∧ x1.length < 4294967281) (some (Lib.trimLeftS x0 x1))
theorem x_strings_TrimLeft_ok (x0 : Str) (x1 : Str) (r : Str) (hm : x_strings_TrimLeft x0 x1 = some r) (w : World) : RetB Tryd.prog 21 ⟨[.string ⟨⟨x0⟩⟩, .string ⟨⟨x1⟩⟩]⟩ (.string ⟨⟨r⟩⟩) w := by
  obtain ⟨h, hm⟩ := chkE hm
  obtain rfl := someE hm
  exact .inl ⟨Tryd.call21 _, fun w' _ => (Any.strings_TrimLeft_laid Tryd.lays161 (by kernel_rfl) ⟨⟨x0⟩⟩ ⟨⟨x1⟩⟩ w' h.2 (ascB_get h.1)).mono fun e w'' he => ⟨he.1, he.2⟩⟩

def x_strings_IndexAny (x0 : Str) (x1 : Str) : Option Int := chk (ascB x0 = true ∧ ascB x1 = true ∧ x0.length < 4294967281 ∧ x1.length < 4294967281) (some (Lib.indexAny x0 x1))
theorem x_strings_IndexAny_ok (x0 : Str) (x1 : Str) (r : Int) (hm : x_strings_IndexAny x0 x1 = some r) (w : World) : RetB Tryd.prog 22 ⟨[.string ⟨⟨x0⟩⟩, .string ⟨⟨x1⟩⟩]⟩ (.int .i64 r) w := by
  obtain ⟨h, hm⟩ := chkE hm
  obtain rfl := someE hm
  exact .inl ⟨Tryd.call22 _, fun w' _ => (Any.strings_IndexAny_laid Tryd.lays153 (by kernel_rfl) ⟨⟨x0⟩⟩ ⟨⟨x1⟩⟩ w' h.2.2.1 h.2.2.2 (ascB_get h.1) (ascB_get h.2.1)).mono fun e w'' he => ⟨he.1, he.2⟩⟩

theorem nat63 (x0 : Str) (x1 : Int) (w : World) : RetB Tryd.prog 63 ⟨[.string ⟨⟨x0⟩⟩, .int .u8 x1]⟩ (.int .i64 (nIndexByte x0 x1)) w := nat_IndexByteString Tryd.func63 (by kernel_rfl) rfl (by kernel_rfl) (by kernel_rfl) _ _ w

def stringslite_IndexByte (s : Str) (c_ : Int) : Int :=
  (nIndexByte s c_)
theorem stringslite_IndexByte_w  (M : Av) (s : Str) (c_ : Int) (r : Int) (hm : stringslite_IndexByte s c_ = r) (w : World) (hS : S0 M [] w) : Calls Tryd.prog 61 ⟨[.string ⟨⟨s⟩⟩, .int .u8 c_]⟩ w (fun e w' => ∃ v, e = .returned v ∧ v = .int .i64 r ∧ SH M (fpl []) w [] w') := by
  rw [stringslite_IndexByte] at hm
  have hS0 : SH M (fpl []) w [] w := hS
  generalize hX : fpl [] = X at hS0 ⊢
  clear hS hX
  have hS := hS0
  clear hS0
  refine calls_entryP Tryd.func61 rfl Tryd.ntmps61 rfl fun _ H => ?_
  refine s_reg [] [0, 1] [(0, [], .string ⟨⟨s⟩⟩), (1, [], .int .u8 c_)] [] H (by kernel_rfl) trivial fun _ wd1 H2 hb => ?_
  clear H
  replace hS := hS.below hb
  clear hb
  refine s_reg [(.int .i64 (nIndexByte s c_))] [4] [(4, [], .int .i64 (nIndexByte s c_))] [fun wz => RetB Tryd.prog 63 ⟨[.string ⟨⟨s⟩⟩, .int .u8 c_]⟩ (.int .i64 (nIndexByte s c_)) wz] H2 (by kernel_rfl) ⟨(nat63 _ _ _), trivial⟩ fun _ wd3 H4 hb => ?_
  clear H2
  replace hS := hS.below hb
  clear hb
  refine w_ret ?_
  subst hm
  exact retR1 H4 rfl rfl ⟨_, rfl, rfl, (hS.sel [] rfl)⟩
theorem stringslite_IndexByte_ok  (s : Str) (c_ : Int) : Ret Tryd.prog 61 ⟨[.string ⟨⟨s⟩⟩, .int .u8 c_]⟩ (.int .i64 (stringslite_IndexByte s c_)) := retP_of (Tryd.call61 _) (fun w h => stringslite_IndexByte_w F0   s c_ _ rfl w h)

def stringslite_Index (s : Str) (substr : Str) : Option (Int) :=
  lt (cond ((ln substr) == 0) true (substr == s)) fun x5 =>
  cond x5 (
  some 0) (
  cond ((ln substr) == 1) (
  chk (0 ≤ (0 : Int) ∧ (0 : Int) < ln substr) <|
  some (stringslite_IndexByte s (bat substr 0))) (
  cond (decide ((ln s) ≤ (ln substr))) (
  some (-1)) (
  none)))
theorem stringslite_Index_w  (M : Av) (s : Str) (substr : Str) (r : Int) (hm : stringslite_Index s substr = some r) (w : World) (hS : S0 M [] w) : Calls Tryd.prog 58 ⟨[.string ⟨⟨s⟩⟩, .string ⟨⟨substr⟩⟩]⟩ w (fun e w' => ∃ v, e = .returned v ∧ v = .int .i64 r ∧ SH M (fpl []) w [] w') := by
  rw [stringslite_Index] at hm
  have hS0 : SH M (fpl []) w [] w := hS
  generalize hX : fpl [] = X at hS0 ⊢
  clear hS hX
  have hS := hS0
  clear hS0
  refine calls_entryP Tryd.func58 rfl Tryd.ntmps58 rfl fun _ H => ?_
  refine s_reg [] [0, 1] [(0, [], .string ⟨⟨s⟩⟩), (1, [], .string ⟨⟨substr⟩⟩)] [] H (by kernel_rfl) trivial fun _ wd1 H2 hb => ?_
  clear H
  replace hS := hS.below hb
  clear hb
  refine s_reg [] [0, 1, 5] [(0, [], .string ⟨⟨s⟩⟩), (1, [], .string ⟨⟨substr⟩⟩), (5, [], .int .i64 (ln substr))] [] H2 (by kernel_rfl) trivial fun _ wd3 H4 hb => ?_
  clear H2
  replace hS := hS.below hb
  clear hb
  refine w_seq ?_
  refine w_block ?_
  obtain ⟨x5, hx5, hm⟩ := letE hm
  refine s_reg [] [0, 1, 5, 16] [(0, [], .string ⟨⟨s⟩⟩), (1, [], .string ⟨⟨substr⟩⟩), (5, [], .int .i64 (ln substr)), (16, [], .bool x5)] [] H4 (by subst hx5; kernel_rfl) trivial fun _ wd6 H7 hb => ?_
  clear H4
  replace hS := hS.below hb
  clear hb
  refine w_if H7 rfl (fun hc => ?_) (fun hc => ?_)
  · replace hm := bT hc hm
    refine s_reg [] [4] [(4, [], .int .i64 0)] [] H7 (by kernel_rfl) trivial fun _ wd8 H9 hb => ?_
    clear H7
    replace hS := hS.below hb
    clear hb
    refine w_ret ?_
    obtain rfl := someE hm
    exact retR1 H9 rfl rfl ⟨_, rfl, rfl, (hS.sel [] rfl)⟩
  · replace hm := bF hc hm
    refine s_reg [] [0, 1, 5, 24] [(0, [], .string ⟨⟨s⟩⟩), (1, [], .string ⟨⟨substr⟩⟩), (5, [], .int .i64 (ln substr)), (24, [], .bool ((ln substr) == 1))] [] H7 (by kernel_rfl) trivial fun _ wd10 H11 hb => ?_
    clear H7
    replace hS := hS.below hb
    clear hb
    refine w_if H11 rfl (fun hc => ?_) (fun hc => ?_)
    · replace hm := bT hc hm
      obtain ⟨ho12, hm⟩ := chkE hm
      refine s_reg [(.int .i64 (stringslite_IndexByte s (bat substr 0)))] [4] [(4, [], .int .i64 (stringslite_IndexByte s (bat substr 0)))] [fun _ => 0 ≤ (0 : Int) ∧ (0 : Int) < ln substr, fun wz => RetB Tryd.prog 61 ⟨[.string ⟨⟨s⟩⟩, .int .u8 (bat substr 0)]⟩ (.int .i64 (stringslite_IndexByte s (bat substr 0))) wz] H11 (by kernel_rfl) ⟨ho12, ((stringslite_IndexByte_ok _ _).b), trivial⟩ fun _ wd13 H14 hb => ?_
      clear H11
      replace hS := hS.below hb
      clear hb
      refine w_ret ?_
      obtain rfl := someE hm
      exact retR1 H14 rfl rfl ⟨_, rfl, rfl, (hS.sel [] rfl)⟩
    · replace hm := bF hc hm
      refine s_reg [] [0, 1, 5, 31] [(0, [], .string ⟨⟨s⟩⟩), (1, [], .string ⟨⟨substr⟩⟩), (5, [], .int .i64 (ln substr)), (31, [], .bool (decide ((ln s) ≤ (ln substr))))] [] H11 (by kernel_rfl) trivial fun _ wd15 H16 hb => ?_
      clear H11
      replace hS := hS.below hb
      clear hb
      refine w_if H16 rfl (fun hc => ?_) (fun hc => ?_)
      · replace hm := bT hc hm
        refine s_reg [] [4] [(4, [], .int .i64 (-1))] [] H16 (by kernel_rfl) trivial fun _ wd17 H18 hb => ?_
        clear H16
        replace hS := hS.below hb
        clear hb
        refine w_ret ?_
        obtain rfl := someE hm
        exact retR1 H18 rfl rfl ⟨_, rfl, rfl, (hS.sel [] rfl)⟩
      · replace hm := bF hc hm
        exact noneE hm
theorem stringslite_Index_ok  (s : Str) (substr : Str) (r : Int) (hm : stringslite_Index s substr = some r) : Ret Tryd.prog 58 ⟨[.string ⟨⟨s⟩⟩, .string ⟨⟨substr⟩⟩]⟩ (.int .i64 r) := retP_of (Tryd.call58 _) (fun w h => stringslite_Index_w F0   s substr r hm w h)

def stringslite_Cut (s : Str) (sep : Str) : Option (Str × Str × Bool) :=
  Option.bind (stringslite_Index s sep) fun y3 =>
  cond (decide (0 ≤ y3)) (
  chk (0 ≤ y3 ∧ y3 ≤ ln s) <|
  chk (0 ≤ (w64 (y3 + (ln sep))) ∧ (w64 (y3 + (ln sep))) ≤ ln s) <|
  some (sub s 0 y3, sub s (w64 (y3 + (ln sep))) (ln s), true)) (
  some (s, [], false))
theorem stringslite_Cut_w  (M : Av) (s : Str) (sep : Str) (r : Str × Str × Bool) (hm : stringslite_Cut s sep = some r) (w : World) (hS : S0 M [] w) : Calls Tryd.prog 43 ⟨[.string ⟨⟨s⟩⟩, .string ⟨⟨sep⟩⟩]⟩ w (fun e w' => ∃ v, e = .returned v ∧ v = .tuple ⟨[.string ⟨⟨r.1⟩⟩, .string ⟨⟨r.2.1⟩⟩, .bool r.2.2]⟩ ∧ SH M (fpl []) w [] w') := by
  rw [stringslite_Cut] at hm
  have hS0 : SH M (fpl []) w [] w := hS
  generalize hX : fpl [] = X at hS0 ⊢
  clear hS hX
  have hS := hS0
  clear hS0
  refine calls_entryP Tryd.func43 rfl Tryd.ntmps43 rfl fun _ H => ?_
  refine s_reg [] [0, 1] [(0, [], .string ⟨⟨s⟩⟩), (1, [], .string ⟨⟨sep⟩⟩)] [] H (by kernel_rfl) trivial fun _ wd1 H2 hb => ?_
  clear H
  replace hS := hS.below hb
  clear hb
  refine w_seq ?_
  obtain ⟨y3, hy3, hm⟩ := bindE hm
  refine s_reg [(.int .i64 y3)] [0, 1, 7] [(0, [], .string ⟨⟨s⟩⟩), (1, [], .string ⟨⟨sep⟩⟩), (7, [], .int .i64 y3)] [fun wz => RetB Tryd.prog 58 ⟨[.string ⟨⟨s⟩⟩, .string ⟨⟨sep⟩⟩]⟩ (.int .i64 y3) wz] H2 (by kernel_rfl) ⟨((stringslite_Index_ok _ _ _ hy3).b), trivial⟩ fun _ wd4 H5 hb => ?_
  clear H2
  replace hS := hS.below hb
  clear hb
  refine s_reg [] [0, 1, 7, 12] [(0, [], .string ⟨⟨s⟩⟩), (1, [], .string ⟨⟨sep⟩⟩), (7, [], .int .i64 y3), (12, [], .bool (decide (0 ≤ y3)))] [] H5 (by kernel_rfl) trivial fun _ wd6 H7 hb => ?_
  clear H5
  replace hS := hS.below hb
  clear hb
  refine w_if H7 rfl (fun hc => ?_) (fun hc => ?_)
  · replace hm := bT hc hm
    obtain ⟨ho8, hm⟩ := chkE hm
    obtain ⟨ho9, hm⟩ := chkE hm
    refine s_draw [] [4, 5, 6] [(4, [], .string ⟨⟨sub s 0 y3⟩⟩), (5, [], .string ⟨⟨sub s (w64 (y3 + (ln sep))) (ln s)⟩⟩), (6, [], .bool true)] [fun _ => 0 ≤ y3 ∧ y3 ≤ ln s, fun _ => 0 ≤ (w64 (y3 + (ln sep))) ∧ (w64 (y3 + (ln sep))) ≤ ln s] H7 (by kernel_rfl) (by kernel_rfl) (by kernel_rfl) ⟨ho8, ho9, trivial⟩ fun _ wd10 H11 hb => ?_
    clear H7
    replace hS := hS.below hb
    clear hb
    refine w_ret ?_
    obtain rfl := someE hm
    exact retR3 H11 rfl rfl rfl rfl ⟨_, rfl, rfl, (hS.sel [] rfl)⟩
  · replace hm := bF hc hm
    refine w_skip ?_
    refine s_reg [] [4, 5, 6] [(4, [], .string ⟨⟨s⟩⟩), (5, [], .string ⟨⟨[]⟩⟩), (6, [], .bool false)] [] H7 (by kernel_rfl) trivial fun _ wd12 H13 hb => ?_
    clear H7
    replace hS := hS.below hb
    clear hb
    refine w_ret ?_
    obtain rfl := someE hm
    exact retR3 H13 rfl rfl rfl rfl ⟨_, rfl, rfl, (hS.sel [] rfl)⟩
theorem stringslite_Cut_ok  (s : Str) (sep : Str) (r : Str × Str × Bool) (hm : stringslite_Cut s sep = some r) : Ret Tryd.prog 43 ⟨[.string ⟨⟨s⟩⟩, .string ⟨⟨sep⟩⟩]⟩ (.tuple ⟨[.string ⟨⟨r.1⟩⟩, .string ⟨⟨r.2.1⟩⟩, .bool r.2.2]⟩) := retP_of (Tryd.call43 _) (fun w h => stringslite_Cut_w F0   s sep r hm w h)

def strings_Cut (s : Str) (sep : Str) : Option (Str × Str × Bool) :=
  Option.bind (stringslite_Cut s sep) fun y3 =>
  some (y3.1, y3.2.1, y3.2.2)
theorem strings_Cut_w  (M : Av) (s : Str) (sep : Str) (r : Str × Str × Bool) (hm : strings_Cut s sep = some r) (w : World) (hS : S0 M [] w) : Calls Tryd.prog 23 ⟨[.string ⟨⟨s⟩⟩, .string ⟨⟨sep⟩⟩]⟩ w (fun e w' => ∃ v, e = .returned v ∧ v = .tuple ⟨[.string ⟨⟨r.1⟩⟩, .string ⟨⟨r.2.1⟩⟩, .bool r.2.2]⟩ ∧ SH M (fpl []) w [] w') := by
  rw [strings_Cut] at hm
  have hS0 : SH M (fpl []) w [] w := hS
  generalize hX : fpl [] = X at hS0 ⊢
  clear hS hX
  have hS := hS0
  clear hS0
  refine calls_entryP Tryd.func23 rfl Tryd.ntmps23 rfl fun _ H => ?_
  refine s_reg [] [0, 1] [(0, [], .string ⟨⟨s⟩⟩), (1, [], .string ⟨⟨sep⟩⟩)] [] H (by kernel_rfl) trivial fun _ wd1 H2 hb => ?_
  clear H
  replace hS := hS.below hb
  clear hb
  obtain ⟨y3, hy3, hm⟩ := bindE hm
  refine s_reg [(.tuple ⟨[.string ⟨⟨y3.1⟩⟩, .string ⟨⟨y3.2.1⟩⟩, .bool y3.2.2]⟩)] [4, 5, 6] [(4, [], .string ⟨⟨y3.1⟩⟩), (5, [], .string ⟨⟨y3.2.1⟩⟩), (6, [], .bool y3.2.2)] [fun wz => RetB Tryd.prog 43 ⟨[.string ⟨⟨s⟩⟩, .string ⟨⟨sep⟩⟩]⟩ (.tuple ⟨[.string ⟨⟨y3.1⟩⟩, .string ⟨⟨y3.2.1⟩⟩, .bool y3.2.2]⟩) wz] H2 (by kernel_rfl) ⟨((stringslite_Cut_ok _ _ _ hy3).b), trivial⟩ fun _ wd4 H5 hb => ?_
  clear H2
  replace hS := hS.below hb
  clear hb
  refine w_ret ?_
  obtain rfl := someE hm
  exact retR3 H5 rfl rfl rfl rfl ⟨_, rfl, rfl, (hS.sel [] rfl)⟩
theorem strings_Cut_ok  (s : Str) (sep : Str) (r : Str × Str × Bool) (hm : strings_Cut s sep = some r) : Ret Tryd.prog 23 ⟨[.string ⟨⟨s⟩⟩, .string ⟨⟨sep⟩⟩]⟩ (.tuple ⟨[.string ⟨⟨r.1⟩⟩, .string ⟨⟨r.2.1⟩⟩, .bool r.2.2]⟩) := retP_of (Tryd.call23 _) (fun w h => strings_Cut_w F0   s sep r hm w h)

def token_thousandths_L1 (m : Nat) (y21 : Str) : Nat → Int → Int → Option (Int)
  | 0, _, _ => none
  | kk + 1, v30, v31 =>
    cond (decide (v31 < (ln (ofB y21)))) (
    chk (0 ≤ v31 ∧ v31 < ln (ofB y21)) <|
    lt (w64 ((w64 (10 * v30)) + (w64 (wu8 ((gi (ofB y21) v31) - 48))))) fun x37 =>
    token_thousandths_L1 m y21 kk (if 1048576 < x37 then 1048576 else x37) (w64 (v31 + 1))) (
    some v30)
def token_thousandths_L2 (m : Nat) (z62 : Str) : Nat → Int → Int → Option (Int)
  | 0, _, _ => none
  | kk + 1, v82, v83 =>
    cond (decide (v83 < (ln (ofB z62)))) (
    chk (0 ≤ v83 ∧ v83 < ln (ofB z62)) <|
    lt (w64 ((w64 (10 * v82)) + (w64 (wu8 ((gi (ofB z62) v83) - 48))))) fun x89 =>
    lt (if 1000000000000 < x89 then 1000000000000 else x89) fun x90 =>
    token_thousandths_L2 m z62 kk x90 (w64 (v83 + 1))) (
    some v82)
def token_thousandths_L3 (m : Nat)  : Nat → Int → Int → Option (Int)
  | 0, _, _ => none
  | kk + 1, v97, v98 =>
    lt (cond (decide (0 < v97)) (decide (0 < v98)) false) fun x99 =>
    lt (cond x99 (decide (v98 < 1000000000000)) false) fun x100 =>
    cond x100 (
    lt (if 1000000000000 < w64 (10 * v98) then 1000000000000 else w64 (10 * v98)) fun x103 =>
    token_thousandths_L3 m  kk (w64 (v97 - 1)) x103) (
    some v98)
def token_thousandths (m : Nat) (s : Str) : Option (Int) :=
  chk (0 ≤ (0 : Int) ∧ (0 : Int) < ln s) <|
  Option.bind (x_strings_TrimLeft s [43, 45]) fun y6 =>
  Option.bind (
  Option.bind (x_strings_IndexAny y6 [101, 69]) fun y12 =>
  cond (decide (0 ≤ y12)) (
  Option.bind (
  chk (0 ≤ (w64 (y12 + 1)) ∧ (w64 (y12 + 1)) ≤ ln y6) <|
  Option.bind (x_strings_TrimLeft (sub y6 (w64 (y12 + 1)) (ln y6)) [43, 45]) fun y21 =>
  token_thousandths_L1 m y21 m 0 0) fun (z19 : Int) =>
  Option.bind (
  chk (0 ≤ (w64 (y12 + 1)) ∧ (w64 (y12 + 1)) < ln y6) <|
  cond ((bat y6 (w64 (y12 + 1))) == 45) (
  some (w64 (0 - z19))) (
  some z19)) fun (z43 : Int) =>
  chk (0 ≤ y12 ∧ y12 ≤ ln y6) <|
  some (sub y6 0 y12, w64 (3 + z43))) (
  some (y6, 3))) fun (z11 : Str × Int) =>
  Option.bind (strings_Cut z11.1 [46]) fun y54 =>
  chk (ln y54.1 + ln y54.2.1 ≤ 9223372036854775807) <|
  Option.bind (
  lt (decide ((w64 (z11.2 - (ln y54.2.1))) < 0)) fun x63 =>
  cond x63 (
  lt (w64 ((ln (y54.1 ++ y54.2.1)) + (w64 (z11.2 - (ln y54.2.1))))) fun x66 =>
  chk (0 ≤ (if 0 < x66 then x66 else 0) ∧ (if 0 < x66 then x66 else 0) ≤ ln (y54.1 ++ y54.2.1)) <|
  lt (sub (y54.1 ++ y54.2.1) 0 (if 0 < x66 then x66 else 0)) fun x68 =>
  some x68) (
  some (y54.1 ++ y54.2.1))) fun (z62 : Str) =>
  Option.bind (
  token_thousandths_L2 m z62 m 0 0) fun (z73 : Int) =>
  Option.bind (
  token_thousandths_L3 m  m (w64 (z11.2 - (ln y54.2.1))) z73) fun (z96 : Int) =>
  Option.bind (
  cond ((bat s 0) == 45) (
  some (w64 (0 - z96))) (
  some z96)) fun (z109 : Int) =>
  some z109
theorem token_thousandths_w  (M : Av) (m : Nat) (s : Str) (r : Int) (hm : token_thousandths m s = some r) (w : World) (hS : S0 M [] w) : Calls Tryd.prog 10 ⟨[.string ⟨⟨s⟩⟩]⟩ w (fun e w' => ∃ v, e = .returned v ∧ v = .int .i64 r ∧ SH M (fpl []) w [] w') := by
  rw [token_thousandths] at hm
  have hS0 : SH M (fpl []) w [] w := hS
  generalize hX : fpl [] = X at hS0 ⊢
  clear hS hX
  have hS := hS0
  clear hS0
  refine calls_entryP Tryd.func10 rfl Tryd.ntmps10 rfl fun _ H => ?_
  refine s_reg [] [0] [(0, [], .string ⟨⟨s⟩⟩)] [] H (by kernel_rfl) trivial fun _ wd1 H2 hb => ?_
  clear H
  replace hS := hS.below hb
  clear hb
  obtain ⟨ho3, hm⟩ := chkE hm
  refine s_reg [] [0, 3] [(0, [], .string ⟨⟨s⟩⟩), (3, [], .bool ((bat s 0) == 45))] [fun _ => 0 ≤ (0 : Int) ∧ (0 : Int) < ln s] H2 (by kernel_rfl) ⟨ho3, trivial⟩ fun _ wd4 H5 hb => ?_
  clear H2
  replace hS := hS.below hb
  clear hb
  obtain ⟨y6, hy6, hm⟩ := bindE hm
  refine s_reg [(.string ⟨⟨y6⟩⟩)] [0, 3] [(0, [], .string ⟨⟨y6⟩⟩), (3, [], .bool ((bat s 0) == 45))] [fun wz => RetB Tryd.prog 21 ⟨[.string ⟨⟨s⟩⟩, .string ⟨⟨[43, 45]⟩⟩]⟩ (.string ⟨⟨y6⟩⟩) wz] H5 (by kernel_rfl) ⟨(x_strings_TrimLeft_ok _ _ _ hy6 _), trivial⟩ fun _ wd7 H8 hb => ?_
  clear H5
  replace hS := hS.below hb
  clear hb
  refine s_reg [] [0, 3, 4] [(0, [], .string ⟨⟨y6⟩⟩), (3, [], .bool ((bat s 0) == 45)), (4, [], .int .i64 3)] [] H8 (by kernel_rfl) trivial fun _ wd9 H10 hb => ?_
  clear H8
  replace hS := hS.below hb
  clear hb
  obtain ⟨z11, hz, hm⟩ := bindE hm
  refine w_cut (fun a' w' => Fr 112 [(3, [], .bool ((bat s 0) == 45)), (0, [], .string ⟨⟨z11.1⟩⟩), (4, [], .int .i64 z11.2)] a' ∧ SH M X w [] w') ?_ ?_
  · replace hm := hz
    obtain ⟨y12, hy12, hm⟩ := bindE hm
    refine s_reg [(.int .i64 y12)] [0, 3, 4, 5] [(0, [], .string ⟨⟨y6⟩⟩), (3, [], .bool ((bat s 0) == 45)), (4, [], .int .i64 3), (5, [], .int .i64 y12)] [fun wz => RetB Tryd.prog 22 ⟨[.string ⟨⟨y6⟩⟩, .string ⟨⟨[101, 69]⟩⟩]⟩ (.int .i64 y12) wz] H10 (by kernel_rfl) ⟨(x_strings_IndexAny_ok _ _ _ hy12 _), trivial⟩ fun _ wd13 H14 hb => ?_
    clear H10
    replace hS := hS.below hb
    clear hb
    refine s_reg [] [0, 3, 4, 5, 23] [(0, [], .string ⟨⟨y6⟩⟩), (3, [], .bool ((bat s 0) == 45)), (4, [], .int .i64 3), (5, [], .int .i64 y12), (23, [], .bool (decide (0 ≤ y12)))] [] H14 (by kernel_rfl) trivial fun _ wd15 H16 hb => ?_
    clear H14
    replace hS := hS.below hb
    clear hb
    refine w_if H16 rfl (fun hc => ?_) (fun hc => ?_)
    · replace hm := bT hc hm
      refine s_reg [] [0, 3, 4, 5, 6] [(0, [], .string ⟨⟨y6⟩⟩), (3, [], .bool ((bat s 0) == 45)), (4, [], .int .i64 3), (5, [], .int .i64 y12), (6, [], .int .i64 0)] [] H16 (by kernel_rfl) trivial fun _ wd17 H18 hb => ?_
      clear H16
      replace hS := hS.below hb
      clear hb
      obtain ⟨z19, hz, hm⟩ := bindE hm
      refine w_cut (fun a' w' => Fr 112 [(0, [], .string ⟨⟨y6⟩⟩), (3, [], .bool ((bat s 0) == 45)), (4, [], .int .i64 3), (5, [], .int .i64 y12), (6, [], .int .i64 z19)] a' ∧ SH M X w [] w') ?_ ?_
      · replace hm := hz
        refine w_seq ?_
        refine wl_start ?_
        obtain ⟨ho20, hm⟩ := chkE hm
        obtain ⟨y21, hy21, hm⟩ := bindE hm
        refine wl_batch 0 5 [(.string ⟨⟨y21⟩⟩)] [0, 3, 4, 5, 6, 28] [(0, [], .string ⟨⟨y6⟩⟩), (3, [], .bool ((bat s 0) == 45)), (4, [], .int .i64 3), (5, [], .int .i64 y12), (6, [], .int .i64 0), (28, [], .string ⟨⟨y21⟩⟩)] [fun _ => 0 ≤ (w64 (y12 + 1)) ∧ (w64 (y12 + 1)) ≤ ln y6, fun wz => RetB Tryd.prog 21 ⟨[.string ⟨⟨sub y6 (w64 (y12 + 1)) (ln y6)⟩⟩, .string ⟨⟨[43, 45]⟩⟩]⟩ (.string ⟨⟨y21⟩⟩) wz] H18 (by decide) (by kernel_rfl) ⟨ho20, (x_strings_TrimLeft_ok _ _ _ hy21 _), trivial⟩ fun _ wd22 H23 hb => ?_
        clear H18
        replace hS := hS.below hb
        clear hb
        have hd : S0 (AvL M []) [] _ := hS.hand [] [] rfl rfl
        refine m_stp [29, 0, 3, 4, 5, 6] [(0, [], .string ⟨⟨y6⟩⟩), (3, [], .bool ((bat s 0) == 45)), (4, [], .int .i64 3), (5, [], .int .i64 y12), (6, [], .int .i64 0)] H23 rfl rfl rfl rfl (o_bytes (E := 5) H23 hd rfl (by kernel_rfl) (by kernel_rfl) (by kernel_rfl)) (fun _ => rfl) fun _ wd26 v H27 hq => ?_
        clear H23 hd
        obtain ⟨b24, c25, rfl, hc_b24, hq⟩ := hq
        replace hS : SH M X w [Ent.row .u8 b24 (ofB y21) (ln (ofB y21))] _ := hS.join [] [] rfl rfl hq
        clear hq
        refine wl_batch 6 8 [] [0, 3, 4, 5, 6, 29, 30, 31] [(0, [], .string ⟨⟨y6⟩⟩), (3, [], .bool ((bat s 0) == 45)), (4, [], .int .i64 3), (5, [], .int .i64 y12), (6, [], .int .i64 0), (29, [], .slice (some ⟨b24, 0, none⟩) ((ofB y21).length) c25), (30, [], .int .i64 (ln (ofB y21))), (31, [], .int .i64 0)] [] H27 (by decide) (by kernel_rfl) trivial fun _ wd28 H29 hb => ?_
        clear H27
        replace hS := hS.below hb
        clear hb
        refine wl_end rfl ?_
        refine w_block ?_
        refine w_loop (fun kk a' w' => ∃ (v30 : Int) (v31 : Int), token_thousandths_L1 m y21 kk v30 v31 = some _ ∧ Fr 112 [(0, [], .string ⟨⟨y6⟩⟩), (3, [], .bool ((bat s 0) == 45)), (4, [], .int .i64 3), (5, [], .int .i64 y12), (29, [], .slice (some ⟨b24, 0, none⟩) ((ofB y21).length) c25), (30, [], .int .i64 (ln (ofB y21))), (6, [], .int .i64 v30), (31, [], .int .i64 v31)] a' ∧ SH M X w [Ent.row .u8 b24 (ofB y21) (ln (ofB y21))] w') ⟨_, 0, 0, hm, Fr.keep (ks := [0, 3, 4, 5, 29, 30, 6, 31]) H29 (by kernel_rfl), hS⟩ ?_
        clear hm H29 hS
        rintro kk _ wd42 ⟨v30, v31, hm, H, hS⟩
        cases kk with
        | zero => exact noneE hm
        | succ kk =>
          rw [token_thousandths_L1] at hm
          refine s_reg [] [0, 3, 4, 5, 6, 29, 30, 31, 32] [(0, [], .string ⟨⟨y6⟩⟩), (3, [], .bool ((bat s 0) == 45)), (4, [], .int .i64 3), (5, [], .int .i64 y12), (6, [], .int .i64 v30), (29, [], .slice (some ⟨b24, 0, none⟩) ((ofB y21).length) c25), (30, [], .int .i64 (ln (ofB y21))), (31, [], .int .i64 v31), (32, [], .bool (decide (v31 < (ln (ofB y21)))))] [] H (by kernel_rfl) trivial fun _ wd32 H33 hb => ?_
          clear H
          replace hS := hS.below hb
          clear hb
          refine w_seq ?_
          refine w_if H33 rfl (fun hc => ?_) (fun hc => ?_)
          · replace hm := bT hc hm
            refine w_skip ?_
            refine w_seq ?_
            refine w_block ?_
            obtain ⟨ho34, hm⟩ := chkE hm
            refine s_reg [(.int .u8 (gi (ofB y21) v31))] [0, 3, 4, 5, 6, 8, 29, 30, 31] [(0, [], .string ⟨⟨y6⟩⟩), (3, [], .bool ((bat s 0) == 45)), (4, [], .int .i64 3), (5, [], .int .i64 y12), (6, [], .int .i64 v30), (8, [], .int .u8 (gi (ofB y21) v31)), (29, [], .slice (some ⟨b24, 0, none⟩) ((ofB y21).length) c25), (30, [], .int .i64 (ln (ofB y21))), (31, [], .int .i64 v31)] [fun _ => oka (some ⟨b24, 0, none⟩) ∧ 0 ≤ v31 ∧ v31 < ln (ofB y21), fun wz => V.at1 ⟨b24, 0 + (v31).toNat * 1, none⟩ (.int .u8 (gi (ofB y21) v31)) wz] H33 (by kernel_rfl) ⟨(⟨rfl, ho34⟩), (Rw.ixn (hS.rw 0 rfl) ho34), trivial⟩ fun _ wd35 H36 hb => ?_
            clear H33
            replace hS := hS.below hb
            clear hb
            obtain ⟨x37, hx37, hm⟩ := letE hm
            refine w_reg [] [0, 3, 4, 5, 6, 29, 30, 31] [(0, [], .string ⟨⟨y6⟩⟩), (3, [], .bool ((bat s 0) == 45)), (4, [], .int .i64 3), (5, [], .int .i64 y12), (6, [], .int .i64 (if 1048576 < x37 then 1048576 else x37)), (29, [], .slice (some ⟨b24, 0, none⟩) ((ofB y21).length) c25), (30, [], .int .i64 (ln (ofB y21))), (31, [], .int .i64 v31)] [] H36 (by subst hx37; kernel_rfl) trivial fun _ wd38 H39 hb => ?_
            clear H36
            replace hS := hS.below hb
            clear hb
            refine w_reg [] [0, 3, 4, 5, 6, 29, 30, 31] [(0, [], .string ⟨⟨y6⟩⟩), (3, [], .bool ((bat s 0) == 45)), (4, [], .int .i64 3), (5, [], .int .i64 y12), (6, [], .int .i64 (if 1048576 < x37 then 1048576 else x37)), (29, [], .slice (some ⟨b24, 0, none⟩) ((ofB y21).length) c25), (30, [], .int .i64 (ln (ofB y21))), (31, [], .int .i64 (w64 (v31 + 1)))] [] H39 (by kernel_rfl) trivial fun _ wd40 H41 hb => ?_
            clear H39
            replace hS := hS.below hb
            clear hb
            exact ⟨_, Nat.lt_succ_self _, if 1048576 < x37 then 1048576 else x37, w64 (v31 + 1), hm, Fr.keep (ks := [0, 3, 4, 5, 29, 30, 6, 31]) H41 (by kernel_rfl), hS⟩
          · replace hm := bF hc hm
            refine w_exit rfl ?_
            obtain rfl := someE hm
            replace hS : SH M X w [] _ := hS.sel [] rfl
            exact ⟨Fr.keep (ks := [0, 3, 4, 5, 6]) H33 (by kernel_rfl), hS⟩
      · rintro _ wd53 ⟨H, hS⟩
        obtain ⟨z43, hz, hm⟩ := bindE hm
        refine w_cut (fun a' w' => Fr 112 [(0, [], .string ⟨⟨y6⟩⟩), (3, [], .bool ((bat s 0) == 45)), (4, [], .int .i64 3), (5, [], .int .i64 y12), (6, [], .int .i64 z43)] a' ∧ SH M X w [] w') ?_ ?_
        · replace hm := hz
          obtain ⟨ho44, hm⟩ := chkE hm
          refine s_reg [] [0, 3, 4, 5, 6, 47] [(0, [], .string ⟨⟨y6⟩⟩), (3, [], .bool ((bat s 0) == 45)), (4, [], .int .i64 3), (5, [], .int .i64 y12), (6, [], .int .i64 z19), (47, [], .bool ((bat y6 (w64 (y12 + 1))) == 45))] [fun _ => 0 ≤ (w64 (y12 + 1)) ∧ (w64 (y12 + 1)) < ln y6] H (by kernel_rfl) ⟨ho44, trivial⟩ fun _ wd45 H46 hb => ?_
          clear H
          replace hS := hS.below hb
          clear hb
          refine w_if H46 rfl (fun hc => ?_) (fun hc => ?_)
          · replace hm := bT hc hm
            refine w_reg [] [0, 3, 4, 5, 6] [(0, [], .string ⟨⟨y6⟩⟩), (3, [], .bool ((bat s 0) == 45)), (4, [], .int .i64 3), (5, [], .int .i64 y12), (6, [], .int .i64 (w64 (0 - z19)))] [] H46 (by kernel_rfl) trivial fun _ wd47 H48 hb => ?_
            clear H46
            replace hS := hS.below hb
            clear hb
            obtain rfl := someE hm
            exact ⟨Fr.keep (ks := [0, 3, 4, 5, 6]) H48 (by kernel_rfl), hS⟩
          · replace hm := bF hc hm
            refine w_skip ?_
            obtain rfl := someE hm
            exact ⟨Fr.keep (ks := [0, 3, 4, 5, 6]) H46 (by kernel_rfl), hS⟩
        · rintro _ wd52 ⟨H, hS⟩
          obtain ⟨ho49, hm⟩ := chkE hm
          refine w_draw [] [0, 3, 4] [(0, [], .string ⟨⟨sub y6 0 y12⟩⟩), (3, [], .bool ((bat s 0) == 45)), (4, [], .int .i64 (w64 (3 + z43)))] [fun _ => 0 ≤ y12 ∧ y12 ≤ ln y6] H (by kernel_rfl) (by kernel_rfl) (by kernel_rfl) ⟨ho49, trivial⟩ fun _ wd50 H51 hb => ?_
          clear H
          replace hS := hS.below hb
          clear hb
          obtain rfl := someE hm
          exact ⟨Fr.keep (ks := [3, 0, 4]) H51 (by kernel_rfl), hS⟩
    · replace hm := bF hc hm
      refine w_skip ?_
      obtain rfl := someE hm
      exact ⟨Fr.keep (ks := [3, 0, 4]) H16 (by kernel_rfl), hS⟩
  · rintro _ wd120 ⟨H, hS⟩
    obtain ⟨y54, hy54, hm⟩ := bindE hm
    refine s_reg [(.tuple ⟨[.string ⟨⟨y54.1⟩⟩, .string ⟨⟨y54.2.1⟩⟩, .bool y54.2.2]⟩)] [3, 4, 9, 10] [(3, [], .bool ((bat s 0) == 45)), (4, [], .int .i64 z11.2), (9, [], .string ⟨⟨y54.1⟩⟩), (10, [], .string ⟨⟨y54.2.1⟩⟩)] [fun wz => RetB Tryd.prog 23 ⟨[.string ⟨⟨z11.1⟩⟩, .string ⟨⟨[46]⟩⟩]⟩ (.tuple ⟨[.string ⟨⟨y54.1⟩⟩, .string ⟨⟨y54.2.1⟩⟩, .bool y54.2.2]⟩) wz] H (by kernel_rfl) ⟨((strings_Cut_ok _ _ _ hy54).b), trivial⟩ fun _ wd55 H56 hb => ?_
    clear H
    replace hS := hS.below hb
    clear hb
    refine s_reg [] [3, 4, 9, 10] [(3, [], .bool ((bat s 0) == 45)), (4, [], .int .i64 (w64 (z11.2 - (ln y54.2.1)))), (9, [], .string ⟨⟨y54.1⟩⟩), (10, [], .string ⟨⟨y54.2.1⟩⟩)] [] H56 (by kernel_rfl) trivial fun _ wd57 H58 hb => ?_
    clear H56
    replace hS := hS.below hb
    clear hb
    obtain ⟨ho59, hm⟩ := chkE hm
    refine s_reg [] [0, 3, 4] [(0, [], .string ⟨⟨y54.1 ++ y54.2.1⟩⟩), (3, [], .bool ((bat s 0) == 45)), (4, [], .int .i64 (w64 (z11.2 - (ln y54.2.1))))] [fun _ => ln y54.1 + ln y54.2.1 ≤ 9223372036854775807] H58 (by kernel_rfl) ⟨ho59, trivial⟩ fun _ wd60 H61 hb => ?_
    clear H58
    replace hS := hS.below hb
    clear hb
    obtain ⟨z62, hz, hm⟩ := bindE hm
    refine w_cut (fun a' w' => Fr 112 [(3, [], .bool ((bat s 0) == 45)), (4, [], .int .i64 (w64 (z11.2 - (ln y54.2.1)))), (0, [], .string ⟨⟨z62⟩⟩)] a' ∧ SH M X w [] w') ?_ ?_
    · replace hm := hz
      obtain ⟨x63, hx63, hm⟩ := letE hm
      refine s_reg [] [0, 3, 4, 70] [(0, [], .string ⟨⟨y54.1 ++ y54.2.1⟩⟩), (3, [], .bool ((bat s 0) == 45)), (4, [], .int .i64 (w64 (z11.2 - (ln y54.2.1)))), (70, [], .bool x63)] [] H61 (by subst hx63; kernel_rfl) trivial fun _ wd64 H65 hb => ?_
      clear H61
      replace hS := hS.below hb
      clear hb
      refine w_if H65 rfl (fun hc => ?_) (fun hc => ?_)
      · replace hm := bT hc hm
        obtain ⟨x66, hx66, hm⟩ := letE hm
        obtain ⟨ho67, hm⟩ := chkE hm
        obtain ⟨x68, hx68, hm⟩ := letE hm
        refine w_reg [] [0, 3, 4] [(0, [], .string ⟨⟨x68⟩⟩), (3, [], .bool ((bat s 0) == 45)), (4, [], .int .i64 (w64 (z11.2 - (ln y54.2.1))))] [fun _ => 0 ≤ (if 0 < x66 then x66 else 0) ∧ (if 0 < x66 then x66 else 0) ≤ ln (y54.1 ++ y54.2.1)] H65 (by subst hx66 hx68; kernel_rfl) ⟨ho67, trivial⟩ fun _ wd69 H70 hb => ?_
        clear H65
        replace hS := hS.below hb
        clear hb
        obtain rfl := someE hm
        exact ⟨Fr.keep (ks := [3, 4, 0]) H70 (by kernel_rfl), hS⟩
      · replace hm := bF hc hm
        refine w_skip ?_
        obtain rfl := someE hm
        exact ⟨Fr.keep (ks := [3, 4, 0]) H65 (by kernel_rfl), hS⟩
    · rintro _ wd119 ⟨H, hS⟩
      refine s_reg [] [0, 3, 4, 12] [(0, [], .string ⟨⟨z62⟩⟩), (3, [], .bool ((bat s 0) == 45)), (4, [], .int .i64 (w64 (z11.2 - (ln y54.2.1)))), (12, [], .int .i64 0)] [] H (by kernel_rfl) trivial fun _ wd71 H72 hb => ?_
      clear H
      replace hS := hS.below hb
      clear hb
      obtain ⟨z73, hz, hm⟩ := bindE hm
      refine w_cut (fun a' w' => Fr 112 [(3, [], .bool ((bat s 0) == 45)), (4, [], .int .i64 (w64 (z11.2 - (ln y54.2.1)))), (12, [], .int .i64 z73)] a' ∧ SH M X w [] w') ?_ ?_
      · replace hm := hz
        refine w_seq ?_
        refine wl_start ?_
        refine wl_batch 0 1 [] [3, 4, 12, 78] [(3, [], .bool ((bat s 0) == 45)), (4, [], .int .i64 (w64 (z11.2 - (ln y54.2.1)))), (12, [], .int .i64 0), (78, [], .string ⟨⟨z62⟩⟩)] [] H72 (by decide) (by kernel_rfl) trivial fun _ wd74 H75 hb => ?_
        clear H72
        replace hS := hS.below hb
        clear hb
        have hd : S0 (AvL M []) [] _ := hS.hand [] [] rfl rfl
        refine m_stp [79, 3, 4, 12] [(3, [], .bool ((bat s 0) == 45)), (4, [], .int .i64 (w64 (z11.2 - (ln y54.2.1)))), (12, [], .int .i64 0)] H75 rfl rfl rfl rfl (o_bytes (E := 5) H75 hd rfl (by kernel_rfl) (by kernel_rfl) (by kernel_rfl)) (fun _ => rfl) fun _ wd78 v H79 hq => ?_
        clear H75 hd
        obtain ⟨b76, c77, rfl, hc_b76, hq⟩ := hq
        replace hS : SH M X w [Ent.row .u8 b76 (ofB z62) (ln (ofB z62))] _ := hS.join [] [] rfl rfl hq
        clear hq
        refine wl_batch 2 4 [] [3, 4, 12, 79, 80, 81] [(3, [], .bool ((bat s 0) == 45)), (4, [], .int .i64 (w64 (z11.2 - (ln y54.2.1)))), (12, [], .int .i64 0), (79, [], .slice (some ⟨b76, 0, none⟩) ((ofB z62).length) c77), (80, [], .int .i64 (ln (ofB z62))), (81, [], .int .i64 0)] [] H79 (by decide) (by kernel_rfl) trivial fun _ wd80 H81 hb => ?_
        clear H79
        replace hS := hS.below hb
        clear hb
        refine wl_end rfl ?_
        refine w_block ?_
        refine w_loop (fun kk a' w' => ∃ (v82 : Int) (v83 : Int), token_thousandths_L2 m z62 kk v82 v83 = some _ ∧ Fr 112 [(3, [], .bool ((bat s 0) == 45)), (4, [], .int .i64 (w64 (z11.2 - (ln y54.2.1)))), (79, [], .slice (some ⟨b76, 0, none⟩) ((ofB z62).length) c77), (80, [], .int .i64 (ln (ofB z62))), (12, [], .int .i64 v82), (81, [], .int .i64 v83)] a' ∧ SH M X w [Ent.row .u8 b76 (ofB z62) (ln (ofB z62))] w') ⟨_, 0, 0, hm, Fr.keep (ks := [3, 4, 79, 80, 12, 81]) H81 (by kernel_rfl), hS⟩ ?_
        clear hm H81 hS
        rintro kk _ wd95 ⟨v82, v83, hm, H, hS⟩
        cases kk with
        | zero => exact noneE hm
        | succ kk =>
          rw [token_thousandths_L2] at hm
          refine s_reg [] [3, 4, 12, 79, 80, 81, 82] [(3, [], .bool ((bat s 0) == 45)), (4, [], .int .i64 (w64 (z11.2 - (ln y54.2.1)))), (12, [], .int .i64 v82), (79, [], .slice (some ⟨b76, 0, none⟩) ((ofB z62).length) c77), (80, [], .int .i64 (ln (ofB z62))), (81, [], .int .i64 v83), (82, [], .bool (decide (v83 < (ln (ofB z62)))))] [] H (by kernel_rfl) trivial fun _ wd84 H85 hb => ?_
          clear H
          replace hS := hS.below hb
          clear hb
          refine w_seq ?_
          refine w_if H85 rfl (fun hc => ?_) (fun hc => ?_)
          · replace hm := bT hc hm
            refine w_skip ?_
            refine w_seq ?_
            refine w_block ?_
            obtain ⟨ho86, hm⟩ := chkE hm
            refine s_reg [(.int .u8 (gi (ofB z62) v83))] [3, 4, 12, 14, 79, 80, 81] [(3, [], .bool ((bat s 0) == 45)), (4, [], .int .i64 (w64 (z11.2 - (ln y54.2.1)))), (12, [], .int .i64 v82), (14, [], .int .u8 (gi (ofB z62) v83)), (79, [], .slice (some ⟨b76, 0, none⟩) ((ofB z62).length) c77), (80, [], .int .i64 (ln (ofB z62))), (81, [], .int .i64 v83)] [fun _ => oka (some ⟨b76, 0, none⟩) ∧ 0 ≤ v83 ∧ v83 < ln (ofB z62), fun wz => V.at1 ⟨b76, 0 + (v83).toNat * 1, none⟩ (.int .u8 (gi (ofB z62) v83)) wz] H85 (by kernel_rfl) ⟨(⟨rfl, ho86⟩), (Rw.ixn (hS.rw 0 rfl) ho86), trivial⟩ fun _ wd87 H88 hb => ?_
            clear H85
            replace hS := hS.below hb
            clear hb
            obtain ⟨x89, hx89, hm⟩ := letE hm
            obtain ⟨x90, hx90, hm⟩ := letE hm
            refine w_reg [] [3, 4, 12, 79, 80, 81] [(3, [], .bool ((bat s 0) == 45)), (4, [], .int .i64 (w64 (z11.2 - (ln y54.2.1)))), (12, [], .int .i64 x90), (79, [], .slice (some ⟨b76, 0, none⟩) ((ofB z62).length) c77), (80, [], .int .i64 (ln (ofB z62))), (81, [], .int .i64 v83)] [] H88 (by subst hx89 hx90; kernel_rfl) trivial fun _ wd91 H92 hb => ?_
            clear H88
            replace hS := hS.below hb
            clear hb
            refine w_reg [] [3, 4, 12, 79, 80, 81] [(3, [], .bool ((bat s 0) == 45)), (4, [], .int .i64 (w64 (z11.2 - (ln y54.2.1)))), (12, [], .int .i64 x90), (79, [], .slice (some ⟨b76, 0, none⟩) ((ofB z62).length) c77), (80, [], .int .i64 (ln (ofB z62))), (81, [], .int .i64 (w64 (v83 + 1)))] [] H92 (by kernel_rfl) trivial fun _ wd93 H94 hb => ?_
            clear H92
            replace hS := hS.below hb
            clear hb
            exact ⟨_, Nat.lt_succ_self _, x90, w64 (v83 + 1), hm, Fr.keep (ks := [3, 4, 79, 80, 12, 81]) H94 (by kernel_rfl), hS⟩
          · replace hm := bF hc hm
            refine w_exit rfl ?_
            obtain rfl := someE hm
            replace hS : SH M X w [] _ := hS.sel [] rfl
            exact ⟨Fr.keep (ks := [3, 4, 12]) H85 (by kernel_rfl), hS⟩
      · rintro _ wd118 ⟨H, hS⟩
        obtain ⟨z96, hz, hm⟩ := bindE hm
        refine w_cut (fun a' w' => Fr 112 [(3, [], .bool ((bat s 0) == 45)), (12, [], .int .i64 z96)] a' ∧ SH M X w [] w') ?_ ?_
        · replace hm := hz
          refine w_block ?_
          refine w_loop (fun kk a' w' => ∃ (v97 : Int) (v98 : Int), token_thousandths_L3 m  kk v97 v98 = some _ ∧ Fr 112 [(3, [], .bool ((bat s 0) == 45)), (4, [], .int .i64 v97), (12, [], .int .i64 v98)] a' ∧ SH M X w [] w') ⟨_, w64 (z11.2 - (ln y54.2.1)), z73, hm, Fr.keep (ks := [3, 4, 12]) H (by kernel_rfl), hS⟩ ?_
          clear hm H hS
          rintro kk _ wd108 ⟨v97, v98, hm, H, hS⟩
          cases kk with
          | zero => exact noneE hm
          | succ kk =>
            rw [token_thousandths_L3] at hm
            refine w_seq ?_
            obtain ⟨x99, hx99, hm⟩ := letE hm
            obtain ⟨x100, hx100, hm⟩ := letE hm
            refine s_reg [] [3, 4, 12, 102] [(3, [], .bool ((bat s 0) == 45)), (4, [], .int .i64 v97), (12, [], .int .i64 v98), (102, [], .bool x100)] [] H (by subst hx99 hx100; kernel_rfl) trivial fun _ wd101 H102 hb => ?_
            clear H
            replace hS := hS.below hb
            clear hb
            refine w_if H102 rfl (fun hc => ?_) (fun hc => ?_)
            · replace hm := bT hc hm
              refine w_skip ?_
              refine w_seq ?_
              refine w_block ?_
              obtain ⟨x103, hx103, hm⟩ := letE hm
              refine w_reg [] [3, 4, 12] [(3, [], .bool ((bat s 0) == 45)), (4, [], .int .i64 v97), (12, [], .int .i64 x103)] [] H102 (by subst hx103; kernel_rfl) trivial fun _ wd104 H105 hb => ?_
              clear H102
              replace hS := hS.below hb
              clear hb
              refine w_reg [] [3, 4, 12] [(3, [], .bool ((bat s 0) == 45)), (4, [], .int .i64 (w64 (v97 - 1))), (12, [], .int .i64 x103)] [] H105 (by kernel_rfl) trivial fun _ wd106 H107 hb => ?_
              clear H105
              replace hS := hS.below hb
              clear hb
              exact ⟨_, Nat.lt_succ_self _, w64 (v97 - 1), x103, hm, Fr.keep (ks := [3, 4, 12]) H107 (by kernel_rfl), hS⟩
            · replace hm := bF hc hm
              refine w_exit rfl ?_
              obtain rfl := someE hm
              exact ⟨Fr.keep (ks := [3, 12]) H102 (by kernel_rfl), hS⟩
        · rintro _ wd117 ⟨H, hS⟩
          obtain ⟨z109, hz, hm⟩ := bindE hm
          refine w_cut (fun a' w' => Fr 112 [(12, [], .int .i64 z109)] a' ∧ SH M X w [] w') ?_ ?_
          · replace hm := hz
            refine s_reg [] [12, 108] [(12, [], .int .i64 z96), (108, [], .bool ((bat s 0) == 45))] [] H (by kernel_rfl) trivial fun _ wd110 H111 hb => ?_
            clear H
            replace hS := hS.below hb
            clear hb
            refine w_if H111 rfl (fun hc => ?_) (fun hc => ?_)
            · replace hm := bT hc hm
              refine w_reg [] [12] [(12, [], .int .i64 (w64 (0 - z96)))] [] H111 (by kernel_rfl) trivial fun _ wd112 H113 hb => ?_
              clear H111
              replace hS := hS.below hb
              clear hb
              obtain rfl := someE hm
              exact ⟨Fr.keep (ks := [12]) H113 (by kernel_rfl), hS⟩
            · replace hm := bF hc hm
              refine w_skip ?_
              obtain rfl := someE hm
              exact ⟨Fr.keep (ks := [12]) H111 (by kernel_rfl), hS⟩
          · rintro _ wd116 ⟨H, hS⟩
            refine s_reg [] [2] [(2, [], .int .i64 z109)] [] H (by kernel_rfl) trivial fun _ wd114 H115 hb => ?_
            clear H
            replace hS := hS.below hb
            clear hb
            refine w_ret ?_
            obtain rfl := someE hm
            exact retR1 H115 rfl rfl ⟨_, rfl, rfl, (hS.sel [] rfl)⟩
theorem token_thousandths_ok  (m : Nat) (s : Str) (r : Int) (hm : token_thousandths m s = some r) : Ret Tryd.prog 10 ⟨[.string ⟨⟨s⟩⟩]⟩ (.int .i64 r) := retP_of (Tryd.call10 _) (fun w h => token_thousandths_w F0 m   s r hm w h)

def token_Value (m : Nat) (s : Str) : Option (Int × Bool × Int) :=
  cond (decide (4000 < (ln s))) (
  some (0, false, 28)) (
  Option.bind (token_scanner_number s 0) fun y14 =>
  cond (!y14) (
  some (0, false, 12)) (
  Option.bind (token_scanner_figures m s 0) fun y21 =>
  cond (decide (y21.2 < (ln s))) (
  some (0, false, 12)) (
  Option.bind (token_thousandths m s) fun y30 =>
  some (y30, y21.1, 0))))
theorem token_Value_w  (M : Av) (m : Nat) (s : Str) (r : Int × Bool × Int) (hm : token_Value m s = some r) (w : World) (hS : S0 M [] w) : Calls Tryd.prog 4 ⟨[.string ⟨⟨s⟩⟩]⟩ w (fun e w' => ∃ v, e = .returned v ∧ v = .tuple ⟨[.int .i64 r.1, .bool r.2.1, .int .i64 r.2.2]⟩ ∧ SH M (fpl []) w [] w') := by
  rw [token_Value] at hm
  have hS0 : SH M (fpl []) w [] w := hS
  generalize hX : fpl [] = X at hS0 ⊢
  clear hS hX
  have hS := hS0
  clear hS0
  refine calls_entryP Tryd.func4 rfl Tryd.ntmps4 rfl fun _ H => ?_
  refine s_reg [] [0] [(0, [], .string ⟨⟨s⟩⟩)] [] H (by kernel_rfl) trivial fun _ wd1 H2 hb => ?_
  clear H
  replace hS := hS.below hb
  clear hb
  refine w_seq ?_
  refine s_reg [] [0, 8] [(0, [], .string ⟨⟨s⟩⟩), (8, [], .bool (decide (4000 < (ln s))))] [] H2 (by kernel_rfl) trivial fun _ wd3 H4 hb => ?_
  clear H2
  replace hS := hS.below hb
  clear hb
  refine w_if H4 rfl (fun hc => ?_) (fun hc => ?_)
  · replace hm := bT hc hm
    refine s_reg [] [2, 3, 4] [(2, [], .int .i64 0), (3, [], .bool false), (4, [], .int .i64 28)] [] H4 (by kernel_rfl) trivial fun _ wd5 H6 hb => ?_
    clear H4
    replace hS := hS.below hb
    clear hb
    refine w_ret ?_
    obtain rfl := someE hm
    exact retR3 H6 rfl rfl rfl rfl ⟨_, rfl, rfl, (hS.sel [] rfl)⟩
  · replace hm := bF hc hm
    refine w_skip ?_
    refine w_seq ?_
    refine wl_start ?_
    refine wl_batch 0 2 [] [0, 10] [(0, [], .string ⟨⟨s⟩⟩), (10, [], .agg ⟨[.string ⟨⟨s⟩⟩, .int .i64 0]⟩)] [] H4 (by decide) (by kernel_rfl) trivial fun _ wd7 H8 hb => ?_
    clear H4
    replace hS := hS.below hb
    clear hb
    have hd : S0 (AvL M []) [] _ := hS.hand [] [] rfl rfl
    refine m_stp [11, 0] [(0, [], .string ⟨⟨s⟩⟩)] H8 rfl rfl rfl rfl (o_box [.string ⟨⟨s⟩⟩, .int .i64 0] H8 hd rfl rfl) (fun _ => rfl) fun _ wd10 v H11 hq => ?_
    clear H8 hd
    obtain ⟨b9, rfl, hq⟩ := hq
    replace hS : SH M X w [Ent.blk b9 [.string ⟨⟨s⟩⟩, .int .i64 0]] _ := hS.join [] [] rfl rfl hq
    clear hq
    refine wl_batch 3 4 [] [0, 5] [(0, [], .string ⟨⟨s⟩⟩), (5, [], .pointer (some ⟨b9, 0, none⟩))] [] H11 (by decide) (by kernel_rfl) trivial fun _ wd12 H13 hb => ?_
    clear H11
    replace hS := hS.below hb
    clear hb
    refine wl_end rfl ?_
    refine w_seq ?_
    obtain ⟨y14, hy14, hm⟩ := bindE hm
    refine s_reg [(.bool y14)] [0, 5, 14] [(0, [], .string ⟨⟨s⟩⟩), (5, [], .pointer (some ⟨b9, 0, none⟩)), (14, [], .bool (!y14))] [fun wz => RetB Tryd.prog 8 ⟨[.pointer (some ⟨b9, 0, none⟩)]⟩ (.bool y14) wz] H13 (by kernel_rfl) ⟨(token_scanner_number_ok (b_c := b9) _ _ _ hy14 _ (s0ro s0nil (hS.bk 0 rfl))), trivial⟩ fun _ wd15 H16 hb => ?_
    clear H13
    replace hS := hS.below hb
    clear hb
    refine w_if H16 rfl (fun hc => ?_) (fun hc => ?_)
    · replace hm := bT hc hm
      refine s_reg [] [2, 3, 4] [(2, [], .int .i64 0), (3, [], .bool false), (4, [], .int .i64 12)] [] H16 (by kernel_rfl) trivial fun _ wd17 H18 hb => ?_
      clear H16
      replace hS := hS.below hb
      clear hb
      replace hS : SH M X w [] _ := hS.sel [] rfl
      refine w_ret ?_
      obtain rfl := someE hm
      exact retR3 H18 rfl rfl rfl rfl ⟨_, rfl, rfl, (hS.sel [] rfl)⟩
    · replace hm := bF hc hm
      refine w_skip ?_
      refine w_seq ?_
      refine w_seq ?_
      refine wl_start ?_
      refine wl_batch 0 1 [] [0, 5, 15] [(0, [], .string ⟨⟨s⟩⟩), (5, [], .pointer (some ⟨b9, 0, none⟩)), (15, [], .pointer (some ⟨b9, 0, none⟩))] [] H16 (by decide) (by kernel_rfl) trivial fun _ wd19 H20 hb => ?_
      clear H16
      replace hS := hS.below hb
      clear hb
      obtain ⟨y21, hy21, hm⟩ := bindE hm
      have hd : S0 (AvL M []) [Ent.blk b9 [.string ⟨⟨s⟩⟩, .int .i64 0]] _ := hS.hand [0] [] rfl rfl
      refine m_stp [16, 0, 5] [(0, [], .string ⟨⟨s⟩⟩), (5, [], .pointer (some ⟨b9, 0, none⟩))] H20 rfl rfl rfl rfl (o_callx H20 rfl rfl (token_scanner_figures_ok (b_c := b9) m _ _ _ hy21 _ _ hd)) (fun _ => rfl) fun _ wd22 v H23 hq => ?_
      clear H20 hd
      obtain ⟨rfl, hq⟩ := hq
      replace hS : SH M X w [Ent.blk b9 [.string ⟨⟨s⟩⟩, .int .i64 y21.2]] _ := hS.join [0] [] rfl rfl hq
      clear hq
      refine wl_batch 2 3 [] [0, 3, 5] [(0, [], .string ⟨⟨s⟩⟩), (3, [], .bool y21.1), (5, [], .pointer (some ⟨b9, 0, none⟩))] [] H23 (by decide) (by kernel_rfl) trivial fun _ wd24 H25 hb => ?_
      clear H23
      replace hS := hS.below hb
      clear hb
      refine wl_end rfl ?_
      refine s_reg [(.int .i64 y21.2)] [0, 3, 23] [(0, [], .string ⟨⟨s⟩⟩), (3, [], .bool y21.1), (23, [], .bool (decide (y21.2 < (ln s))))] [fun wz => V.at1 ⟨b9, 1, none⟩ (.int .i64 y21.2) wz] H25 (by kernel_rfl) ⟨((hS.bk 0 rfl).at1 rfl), trivial⟩ fun _ wd26 H27 hb => ?_
      clear H25
      replace hS := hS.below hb
      clear hb
      replace hS : SH M X w [] _ := hS.sel [] rfl
      refine w_if H27 rfl (fun hc => ?_) (fun hc => ?_)
      · replace hm := bT hc hm
        refine s_reg [] [2, 3, 4] [(2, [], .int .i64 0), (3, [], .bool false), (4, [], .int .i64 12)] [] H27 (by kernel_rfl) trivial fun _ wd28 H29 hb => ?_
        clear H27
        replace hS := hS.below hb
        clear hb
        refine w_ret ?_
        obtain rfl := someE hm
        exact retR3 H29 rfl rfl rfl rfl ⟨_, rfl, rfl, (hS.sel [] rfl)⟩
      · replace hm := bF hc hm
        refine w_skip ?_
        obtain ⟨y30, hy30, hm⟩ := bindE hm
        refine s_reg [(.int .i64 y30)] [2, 3, 4] [(2, [], .int .i64 y30), (3, [], .bool y21.1), (4, [], .int .i64 0)] [fun wz => RetB Tryd.prog 10 ⟨[.string ⟨⟨s⟩⟩]⟩ (.int .i64 y30) wz] H27 (by kernel_rfl) ⟨((token_thousandths_ok m _ _ hy30).b), trivial⟩ fun _ wd31 H32 hb => ?_
        clear H27
        replace hS := hS.below hb
        clear hb
        refine w_ret ?_
        obtain rfl := someE hm
        exact retR3 H32 rfl rfl rfl rfl ⟨_, rfl, rfl, (hS.sel [] rfl)⟩
theorem token_Value_ok  (m : Nat) (s : Str) (r : Int × Bool × Int) (hm : token_Value m s = some r) : Ret Tryd.prog 4 ⟨[.string ⟨⟨s⟩⟩]⟩ (.tuple ⟨[.int .i64 r.1, .bool r.2.1, .int .i64 r.2.2]⟩) := retP_of (Tryd.call4 _) (fun w h => token_Value_w F0 m   s r hm w h)

def r02_At (s : Str) (i : Int) : Option (Int) :=
  cond (decide (i < (ln s))) (
  chk (0 ≤ i ∧ i < ln s) <|
  some (bat s i)) (
  some 0)
theorem r02_At_w  (M : Av) (s : Str) (i : Int) (r : Int) (hm : r02_At s i = some r) (w : World) (hS : S0 M [] w) : Calls Tryd.prog 24 ⟨[.string ⟨⟨s⟩⟩, .int .i64 i]⟩ w (fun e w' => ∃ v, e = .returned v ∧ v = .int .u8 r ∧ SH M (fpl []) w [] w') := by
  rw [r02_At] at hm
  have hS0 : SH M (fpl []) w [] w := hS
  generalize hX : fpl [] = X at hS0 ⊢
  clear hS hX
  have hS := hS0
  clear hS0
  refine calls_entryP Tryd.func24 rfl Tryd.ntmps24 rfl fun _ H => ?_
  refine s_reg [] [0, 1] [(0, [], .string ⟨⟨s⟩⟩), (1, [], .int .i64 i)] [] H (by kernel_rfl) trivial fun _ wd1 H2 hb => ?_
  clear H
  replace hS := hS.below hb
  clear hb
  refine w_seq ?_
  refine s_reg [] [0, 1, 8] [(0, [], .string ⟨⟨s⟩⟩), (1, [], .int .i64 i), (8, [], .bool (decide (i < (ln s))))] [] H2 (by kernel_rfl) trivial fun _ wd3 H4 hb => ?_
  clear H2
  replace hS := hS.below hb
  clear hb
  refine w_if H4 rfl (fun hc => ?_) (fun hc => ?_)
  · replace hm := bT hc hm
    obtain ⟨ho5, hm⟩ := chkE hm
    refine s_reg [] [4] [(4, [], .int .u8 (bat s i))] [fun _ => 0 ≤ i ∧ i < ln s] H4 (by kernel_rfl) ⟨ho5, trivial⟩ fun _ wd6 H7 hb => ?_
    clear H4
    replace hS := hS.below hb
    clear hb
    refine w_ret ?_
    obtain rfl := someE hm
    exact retR1 H7 rfl rfl ⟨_, rfl, rfl, (hS.sel [] rfl)⟩
  · replace hm := bF hc hm
    refine w_skip ?_
    refine s_reg [] [4] [(4, [], .int .u8 0)] [] H4 (by kernel_rfl) trivial fun _ wd8 H9 hb => ?_
    clear H4
    replace hS := hS.below hb
    clear hb
    refine w_ret ?_
    obtain rfl := someE hm
    exact retR1 H9 rfl rfl ⟨_, rfl, rfl, (hS.sel [] rfl)⟩
theorem r02_At_ok  (s : Str) (i : Int) (r : Int) (hm : r02_At s i = some r) : Ret Tryd.prog 24 ⟨[.string ⟨⟨s⟩⟩, .int .i64 i]⟩ (.int .u8 r) := retP_of (Tryd.call24 _) (fun w h => r02_At_w F0   s i r hm w h)

def r02_Digit (c_ : Int) : Bool :=
  lt (cond (decide (48 ≤ c_)) (decide (c_ ≤ 57)) false) fun x3 =>
  x3
theorem r02_Digit_w  (M : Av) (c_ : Int) (r : Bool) (hm : r02_Digit c_ = r) (w : World) (hS : S0 M [] w) : Calls Tryd.prog 25 ⟨[.int .u8 c_]⟩ w (fun e w' => ∃ v, e = .returned v ∧ v = .bool r ∧ SH M (fpl []) w [] w') := by
  rw [r02_Digit] at hm
  have hS0 : SH M (fpl []) w [] w := hS
  generalize hX : fpl [] = X at hS0 ⊢
  clear hS hX
  have hS := hS0
  clear hS0
  refine calls_entryP Tryd.func25 rfl Tryd.ntmps25 rfl fun _ H => ?_
  refine s_reg [] [0] [(0, [], .int .u8 c_)] [] H (by kernel_rfl) trivial fun _ wd1 H2 hb => ?_
  clear H
  replace hS := hS.below hb
  clear hb
  obtain ⟨x3, hx3, hm⟩ := letE hm
  refine s_reg [] [2] [(2, [], .bool x3)] [] H2 (by subst hx3; kernel_rfl) trivial fun _ wd4 H5 hb => ?_
  clear H2
  replace hS := hS.below hb
  clear hb
  refine w_ret ?_
  subst hm
  exact retR1 H5 rfl rfl ⟨_, rfl, rfl, (hS.sel [] rfl)⟩
theorem r02_Digit_ok  (c_ : Int) : Ret Tryd.prog 25 ⟨[.int .u8 c_]⟩ (.bool (r02_Digit c_)) := retP_of (Tryd.call25 _) (fun w h => r02_Digit_w F0   c_ _ rfl w h)

def r02_NumberAt (s : Str) (i : Int) : Option (Bool) :=
  Option.bind (
  Option.bind (r02_At s i) fun y4 =>
  cond (cond (y4 == 43) true (y4 == 45)) (
  some (w64 (i + 1))) (
  some i)) fun (z3 : Int) =>
  Option.bind (
  Option.bind (r02_At s z3) fun y12 =>
  cond (y12 == 46) (
  some (w64 (z3 + 1))) (
  some z3)) fun (z11 : Int) =>
  Option.bind (r02_At s z11) fun y17 =>
  some (r02_Digit y17)
theorem r02_NumberAt_w  (M : Av) (s : Str) (i : Int) (r : Bool) (hm : r02_NumberAt s i = some r) (w : World) (hS : S0 M [] w) : Calls Tryd.prog 11 ⟨[.string ⟨⟨s⟩⟩, .int .i64 i]⟩ w (fun e w' => ∃ v, e = .returned v ∧ v = .bool r ∧ SH M (fpl []) w [] w') := by
  rw [r02_NumberAt] at hm
  have hS0 : SH M (fpl []) w [] w := hS
  generalize hX : fpl [] = X at hS0 ⊢
  clear hS hX
  have hS := hS0
  clear hS0
  refine calls_entryP Tryd.func11 rfl Tryd.ntmps11 rfl fun _ H => ?_
  refine s_reg [] [0, 1] [(0, [], .string ⟨⟨s⟩⟩), (1, [], .int .i64 i)] [] H (by kernel_rfl) trivial fun _ wd1 H2 hb => ?_
  clear H
  replace hS := hS.below hb
  clear hb
  obtain ⟨z3, hz, hm⟩ := bindE hm
  refine w_cut (fun a' w' => Fr 27 [(0, [], .string ⟨⟨s⟩⟩), (1, [], .int .i64 z3)] a' ∧ SH M X w [] w') ?_ ?_
  · replace hm := hz
    obtain ⟨y4, hy4, hm⟩ := bindE hm
    refine s_reg [(.int .u8 y4)] [0, 1, 5] [(0, [], .string ⟨⟨s⟩⟩), (1, [], .int .i64 i), (5, [], .int .u8 y4)] [fun wz => RetB Tryd.prog 24 ⟨[.string ⟨⟨s⟩⟩, .int .i64 i]⟩ (.int .u8 y4) wz] H2 (by kernel_rfl) ⟨((r02_At_ok _ _ _ hy4).b), trivial⟩ fun _ wd5 H6 hb => ?_
    clear H2
    replace hS := hS.below hb
    clear hb
    refine s_reg [] [0, 1, 14] [(0, [], .string ⟨⟨s⟩⟩), (1, [], .int .i64 i), (14, [], .bool (cond (y4 == 43) true (y4 == 45)))] [] H6 (by kernel_rfl) trivial fun _ wd7 H8 hb => ?_
    clear H6
    replace hS := hS.below hb
    clear hb
    refine w_if H8 rfl (fun hc => ?_) (fun hc => ?_)
    · replace hm := bT hc hm
      refine w_reg [] [0, 1] [(0, [], .string ⟨⟨s⟩⟩), (1, [], .int .i64 (w64 (i + 1)))] [] H8 (by kernel_rfl) trivial fun _ wd9 H10 hb => ?_
      clear H8
      replace hS := hS.below hb
      clear hb
      obtain rfl := someE hm
      exact ⟨Fr.keep (ks := [0, 1]) H10 (by kernel_rfl), hS⟩
    · replace hm := bF hc hm
      refine w_skip ?_
      obtain rfl := someE hm
      exact ⟨Fr.keep (ks := [0, 1]) H8 (by kernel_rfl), hS⟩
  · rintro _ wd21 ⟨H, hS⟩
    obtain ⟨z11, hz, hm⟩ := bindE hm
    refine w_cut (fun a' w' => Fr 27 [(0, [], .string ⟨⟨s⟩⟩), (1, [], .int .i64 z11)] a' ∧ SH M X w [] w') ?_ ?_
    · replace hm := hz
      obtain ⟨y12, hy12, hm⟩ := bindE hm
      refine s_reg [(.int .u8 y12)] [0, 1, 20] [(0, [], .string ⟨⟨s⟩⟩), (1, [], .int .i64 z3), (20, [], .bool (y12 == 46))] [fun wz => RetB Tryd.prog 24 ⟨[.string ⟨⟨s⟩⟩, .int .i64 z3]⟩ (.int .u8 y12) wz] H (by kernel_rfl) ⟨((r02_At_ok _ _ _ hy12).b), trivial⟩ fun _ wd13 H14 hb => ?_
      clear H
      replace hS := hS.below hb
      clear hb
      refine w_if H14 rfl (fun hc => ?_) (fun hc => ?_)
      · replace hm := bT hc hm
        refine w_reg [] [0, 1] [(0, [], .string ⟨⟨s⟩⟩), (1, [], .int .i64 (w64 (z3 + 1)))] [] H14 (by kernel_rfl) trivial fun _ wd15 H16 hb => ?_
        clear H14
        replace hS := hS.below hb
        clear hb
        obtain rfl := someE hm
        exact ⟨Fr.keep (ks := [0, 1]) H16 (by kernel_rfl), hS⟩
      · replace hm := bF hc hm
        refine w_skip ?_
        obtain rfl := someE hm
        exact ⟨Fr.keep (ks := [0, 1]) H14 (by kernel_rfl), hS⟩
    · rintro _ wd20 ⟨H, hS⟩
      obtain ⟨y17, hy17, hm⟩ := bindE hm
      refine s_reg [(.int .u8 y17), (.bool (r02_Digit y17))] [4] [(4, [], .bool (r02_Digit y17))] [fun wz => RetB Tryd.prog 24 ⟨[.string ⟨⟨s⟩⟩, .int .i64 z11]⟩ (.int .u8 y17) wz, fun wz => RetB Tryd.prog 25 ⟨[.int .u8 y17]⟩ (.bool (r02_Digit y17)) wz] H (by kernel_rfl) ⟨((r02_At_ok _ _ _ hy17).b), ((r02_Digit_ok _).b), trivial⟩ fun _ wd18 H19 hb => ?_
      clear H
      replace hS := hS.below hb
      clear hb
      refine w_ret ?_
      obtain rfl := someE hm
      exact retR1 H19 rfl rfl ⟨_, rfl, rfl, (hS.sel [] rfl)⟩
theorem r02_NumberAt_ok  (s : Str) (i : Int) (r : Bool) (hm : r02_NumberAt s i = some r) : Ret Tryd.prog 11 ⟨[.string ⟨⟨s⟩⟩, .int .i64 i]⟩ (.bool r) := retP_of (Tryd.call11 _) (fun w h => r02_NumberAt_w F0   s i r hm w h)

def r02_digits_L1 (m : Nat) (s : Str) : Nat → Int → Option (Int)
  | 0, _ => none
  | kk + 1, v4 =>
    Option.bind (r02_At s v4) fun y5 =>
    cond (r02_Digit y5) (
    r02_digits_L1 m s kk (w64 (v4 + 1))) (
    some v4)
def r02_digits (m : Nat) (s : Str) (i : Int) : Option (Int) :=
  Option.bind (
  r02_digits_L1 m s m i) fun (z3 : Int) =>
  some z3
theorem r02_digits_w  (M : Av) (m : Nat) (s : Str) (i : Int) (r : Int) (hm : r02_digits m s i = some r) (w : World) (hS : S0 M [] w) : Calls Tryd.prog 26 ⟨[.string ⟨⟨s⟩⟩, .int .i64 i]⟩ w (fun e w' => ∃ v, e = .returned v ∧ v = .int .i64 r ∧ SH M (fpl []) w [] w') := by
  rw [r02_digits] at hm
  have hS0 : SH M (fpl []) w [] w := hS
  generalize hX : fpl [] = X at hS0 ⊢
  clear hS hX
  have hS := hS0
  clear hS0
  refine calls_entryP Tryd.func26 rfl Tryd.ntmps26 rfl fun _ H => ?_
  refine s_reg [] [0, 1] [(0, [], .string ⟨⟨s⟩⟩), (1, [], .int .i64 i)] [] H (by kernel_rfl) trivial fun _ wd1 H2 hb => ?_
  clear H
  replace hS := hS.below hb
  clear hb
  obtain ⟨z3, hz, hm⟩ := bindE hm
  refine w_cut (fun a' w' => Fr 12 [(1, [], .int .i64 z3)] a' ∧ SH M X w [] w') ?_ ?_
  · replace hm := hz
    refine w_block ?_
    refine w_loop (fun kk a' w' => ∃ (v4 : Int), r02_digits_L1 m s kk v4 = some _ ∧ Fr 12 [(0, [], .string ⟨⟨s⟩⟩), (1, [], .int .i64 v4)] a' ∧ SH M X w [] w') ⟨_, i, hm, Fr.keep (ks := [0, 1]) H2 (by kernel_rfl), hS⟩ ?_
    clear hm H2 hS
    rintro kk _ wd10 ⟨v4, hm, H, hS⟩
    cases kk with
    | zero => exact noneE hm
    | succ kk =>
      rw [r02_digits_L1] at hm
      refine w_seq ?_
      obtain ⟨y5, hy5, hm⟩ := bindE hm
      refine s_reg [(.int .u8 y5), (.bool (r02_Digit y5))] [0, 1, 8] [(0, [], .string ⟨⟨s⟩⟩), (1, [], .int .i64 v4), (8, [], .bool (r02_Digit y5))] [fun wz => RetB Tryd.prog 24 ⟨[.string ⟨⟨s⟩⟩, .int .i64 v4]⟩ (.int .u8 y5) wz, fun wz => RetB Tryd.prog 25 ⟨[.int .u8 y5]⟩ (.bool (r02_Digit y5)) wz] H (by kernel_rfl) ⟨((r02_At_ok _ _ _ hy5).b), ((r02_Digit_ok _).b), trivial⟩ fun _ wd6 H7 hb => ?_
      clear H
      replace hS := hS.below hb
      clear hb
      refine w_if H7 rfl (fun hc => ?_) (fun hc => ?_)
      · replace hm := bT hc hm
        refine w_skip ?_
        refine w_block ?_
        refine w_reg [] [0, 1] [(0, [], .string ⟨⟨s⟩⟩), (1, [], .int .i64 (w64 (v4 + 1)))] [] H7 (by kernel_rfl) trivial fun _ wd8 H9 hb => ?_
        clear H7
        replace hS := hS.below hb
        clear hb
        exact ⟨_, Nat.lt_succ_self _, w64 (v4 + 1), hm, Fr.keep (ks := [0, 1]) H9 (by kernel_rfl), hS⟩
      · replace hm := bF hc hm
        refine w_exit rfl ?_
        obtain rfl := someE hm
        exact ⟨Fr.keep (ks := [1]) H7 (by kernel_rfl), hS⟩
  · rintro _ wd13 ⟨H, hS⟩
    refine s_reg [] [4] [(4, [], .int .i64 z3)] [] H (by kernel_rfl) trivial fun _ wd11 H12 hb => ?_
    clear H
    replace hS := hS.below hb
    clear hb
    refine w_ret ?_
    obtain rfl := someE hm
    exact retR1 H12 rfl rfl ⟨_, rfl, rfl, (hS.sel [] rfl)⟩
theorem r02_digits_ok  (m : Nat) (s : Str) (i : Int) (r : Int) (hm : r02_digits m s i = some r) : Ret Tryd.prog 26 ⟨[.string ⟨⟨s⟩⟩, .int .i64 i]⟩ (.int .i64 r) := retP_of (Tryd.call26 _) (fun w h => r02_digits_w F0 m   s i r hm w h)

def r02_NumberEnd (m : Nat) (s : Str) (i : Int) : Option (Int × Bool) :=
  Option.bind (
  Option.bind (r02_At s i) fun y4 =>
  cond (cond (y4 == 43) true (y4 == 45)) (
  some (w64 (i + 1))) (
  some i)) fun (z3 : Int) =>
  Option.bind (r02_digits m s z3) fun y11 =>
  Option.bind (
  Option.bind (r02_At s y11) fun y17 =>
  Option.bind (cond (y17 == 46) (r02_At s (w64 (y11 + 1))) (some default)) fun y18 =>
  cond (cond (y17 == 46) (r02_Digit y18) false) (
  Option.bind (r02_digits m s (w64 (y11 + 1))) fun y23 =>
  some (y23, false)) (
  some (y11, true))) fun (z16 : Int × Bool) =>
  Option.bind (
  Option.bind (r02_At s z16.1) fun y27 =>
  cond (cond (y27 == 101) true (y27 == 69)) (
  Option.bind (
  Option.bind (r02_At s (w64 (z16.1 + 1))) fun y35 =>
  cond (cond (y35 == 43) true (y35 == 45)) (
  some (w64 ((w64 (z16.1 + 1)) + 1))) (
  some (w64 (z16.1 + 1)))) fun (z34 : Int) =>
  Option.bind (r02_At s z34) fun y42 =>
  cond (r02_Digit y42) (
  Option.bind (r02_digits m s z34) fun y47 =>
  some (y47, false)) (
  some (z16.1, z16.2))) (
  some (z16.1, z16.2))) fun (z26 : Int × Bool) =>
  some (z26.1, z26.2)
theorem r02_NumberEnd_w  (M : Av) (m : Nat) (s : Str) (i : Int) (r : Int × Bool) (hm : r02_NumberEnd m s i = some r) (w : World) (hS : S0 M [] w) : Calls Tryd.prog 12 ⟨[.string ⟨⟨s⟩⟩, .int .i64 i]⟩ w (fun e w' => ∃ v, e = .returned v ∧ v = .tuple ⟨[.int .i64 r.1, .bool r.2]⟩ ∧ SH M (fpl []) w [] w') := by
  rw [r02_NumberEnd] at hm
  have hS0 : SH M (fpl []) w [] w := hS
  generalize hX : fpl [] = X at hS0 ⊢
  clear hS hX
  have hS := hS0
  clear hS0
  refine calls_entryP Tryd.func12 rfl Tryd.ntmps12 rfl fun _ H => ?_
  refine s_reg [] [0, 1] [(0, [], .string ⟨⟨s⟩⟩), (1, [], .int .i64 i)] [] H (by kernel_rfl) trivial fun _ wd1 H2 hb => ?_
  clear H
  replace hS := hS.below hb
  clear hb
  obtain ⟨z3, hz, hm⟩ := bindE hm
  refine w_cut (fun a' w' => Fr 71 [(0, [], .string ⟨⟨s⟩⟩), (1, [], .int .i64 z3)] a' ∧ SH M X w [] w') ?_ ?_
  · replace hm := hz
    obtain ⟨y4, hy4, hm⟩ := bindE hm
    refine s_reg [(.int .u8 y4)] [0, 1, 6] [(0, [], .string ⟨⟨s⟩⟩), (1, [], .int .i64 i), (6, [], .int .u8 y4)] [fun wz => RetB Tryd.prog 24 ⟨[.string ⟨⟨s⟩⟩, .int .i64 i]⟩ (.int .u8 y4) wz] H2 (by kernel_rfl) ⟨((r02_At_ok _ _ _ hy4).b), trivial⟩ fun _ wd5 H6 hb => ?_
    clear H2
    replace hS := hS.below hb
    clear hb
    refine s_reg [] [0, 1, 19] [(0, [], .string ⟨⟨s⟩⟩), (1, [], .int .i64 i), (19, [], .bool (cond (y4 == 43) true (y4 == 45)))] [] H6 (by kernel_rfl) trivial fun _ wd7 H8 hb => ?_
    clear H6
    replace hS := hS.below hb
    clear hb
    refine w_if H8 rfl (fun hc => ?_) (fun hc => ?_)
    · replace hm := bT hc hm
      refine w_reg [] [0, 1] [(0, [], .string ⟨⟨s⟩⟩), (1, [], .int .i64 (w64 (i + 1)))] [] H8 (by kernel_rfl) trivial fun _ wd9 H10 hb => ?_
      clear H8
      replace hS := hS.below hb
      clear hb
      obtain rfl := someE hm
      exact ⟨Fr.keep (ks := [0, 1]) H10 (by kernel_rfl), hS⟩
    · replace hm := bF hc hm
      refine w_skip ?_
      obtain rfl := someE hm
      exact ⟨Fr.keep (ks := [0, 1]) H8 (by kernel_rfl), hS⟩
  · rintro _ wd55 ⟨H, hS⟩
    obtain ⟨y11, hy11, hm⟩ := bindE hm
    refine s_reg [(.int .i64 y11)] [0, 1] [(0, [], .string ⟨⟨s⟩⟩), (1, [], .int .i64 y11)] [fun wz => RetB Tryd.prog 26 ⟨[.string ⟨⟨s⟩⟩, .int .i64 z3]⟩ (.int .i64 y11) wz] H (by kernel_rfl) ⟨((r02_digits_ok m _ _ _ hy11).b), trivial⟩ fun _ wd12 H13 hb => ?_
    clear H
    replace hS := hS.below hb
    clear hb
    refine s_reg [] [0, 1, 7] [(0, [], .string ⟨⟨s⟩⟩), (1, [], .int .i64 y11), (7, [], .bool true)] [] H13 (by kernel_rfl) trivial fun _ wd14 H15 hb => ?_
    clear H13
    replace hS := hS.below hb
    clear hb
    obtain ⟨z16, hz, hm⟩ := bindE hm
    refine w_cut (fun a' w' => Fr 71 [(0, [], .string ⟨⟨s⟩⟩), (1, [], .int .i64 z16.1), (7, [], .bool z16.2)] a' ∧ SH M X w [] w') ?_ ?_
    · replace hm := hz
      obtain ⟨y17, hy17, hm⟩ := bindE hm
      obtain ⟨y18, hy18, hm⟩ := bindE hm
      refine s_reg [(.int .u8 y17), (.int .u8 y18), (.bool (r02_Digit y18))] [0, 1, 7, 35] [(0, [], .string ⟨⟨s⟩⟩), (1, [], .int .i64 y11), (7, [], .bool true), (35, [], .bool (cond (y17 == 46) (r02_Digit y18) false))] [fun wz => RetB Tryd.prog 24 ⟨[.string ⟨⟨s⟩⟩, .int .i64 y11]⟩ (.int .u8 y17) wz, fun wz => ((y17 == 46) = true ∧ True → RetB Tryd.prog 24 ⟨[.string ⟨⟨s⟩⟩, .int .i64 (w64 (y11 + 1))]⟩ (.int .u8 y18) wz), fun wz => ((y17 == 46) = true ∧ True → RetB Tryd.prog 25 ⟨[.int .u8 y18]⟩ (.bool (r02_Digit y18)) wz)] H15 (by kernel_rfl) ⟨((r02_At_ok _ _ _ hy17).b), fun hg => (r02_At_ok _ _ _ (bT (hg.1) hy18)).b, fun hg => (r02_Digit_ok _).b, trivial⟩ fun _ wd19 H20 hb => ?_
      clear H15
      replace hS := hS.below hb
      clear hb
      refine w_if H20 rfl (fun hc => ?_) (fun hc => ?_)
      · replace hm := bT hc hm
        refine s_reg [] [0, 1, 7] [(0, [], .string ⟨⟨s⟩⟩), (1, [], .int .i64 y11), (7, [], .bool false)] [] H20 (by kernel_rfl) trivial fun _ wd21 H22 hb => ?_
        clear H20
        replace hS := hS.below hb
        clear hb
        obtain ⟨y23, hy23, hm⟩ := bindE hm
        refine w_reg [(.int .i64 y23)] [0, 1, 7] [(0, [], .string ⟨⟨s⟩⟩), (1, [], .int .i64 y23), (7, [], .bool false)] [fun wz => RetB Tryd.prog 26 ⟨[.string ⟨⟨s⟩⟩, .int .i64 (w64 (y11 + 1))]⟩ (.int .i64 y23) wz] H22 (by kernel_rfl) ⟨((r02_digits_ok m _ _ _ hy23).b), trivial⟩ fun _ wd24 H25 hb => ?_
        clear H22
        replace hS := hS.below hb
        clear hb
        obtain rfl := someE hm
        exact ⟨Fr.keep (ks := [0, 1, 7]) H25 (by kernel_rfl), hS⟩
      · replace hm := bF hc hm
        refine w_skip ?_
        obtain rfl := someE hm
        exact ⟨Fr.keep (ks := [0, 1, 7]) H20 (by kernel_rfl), hS⟩
    · rintro _ wd54 ⟨H, hS⟩
      obtain ⟨z26, hz, hm⟩ := bindE hm
      refine w_cut (fun a' w' => Fr 71 [(1, [], .int .i64 z26.1), (7, [], .bool z26.2)] a' ∧ SH M X w [] w') ?_ ?_
      · replace hm := hz
        obtain ⟨y27, hy27, hm⟩ := bindE hm
        refine s_reg [(.int .u8 y27)] [0, 1, 7, 8] [(0, [], .string ⟨⟨s⟩⟩), (1, [], .int .i64 z16.1), (7, [], .bool z16.2), (8, [], .int .u8 y27)] [fun wz => RetB Tryd.prog 24 ⟨[.string ⟨⟨s⟩⟩, .int .i64 z16.1]⟩ (.int .u8 y27) wz] H (by kernel_rfl) ⟨((r02_At_ok _ _ _ hy27).b), trivial⟩ fun _ wd28 H29 hb => ?_
        clear H
        replace hS := hS.below hb
        clear hb
        refine s_reg [] [0, 1, 7, 48] [(0, [], .string ⟨⟨s⟩⟩), (1, [], .int .i64 z16.1), (7, [], .bool z16.2), (48, [], .bool (cond (y27 == 101) true (y27 == 69)))] [] H29 (by kernel_rfl) trivial fun _ wd30 H31 hb => ?_
        clear H29
        replace hS := hS.below hb
        clear hb
        refine w_if H31 rfl (fun hc => ?_) (fun hc => ?_)
        · replace hm := bT hc hm
          refine s_reg [] [0, 1, 7, 9] [(0, [], .string ⟨⟨s⟩⟩), (1, [], .int .i64 z16.1), (7, [], .bool z16.2), (9, [], .int .i64 (w64 (z16.1 + 1)))] [] H31 (by kernel_rfl) trivial fun _ wd32 H33 hb => ?_
          clear H31
          replace hS := hS.below hb
          clear hb
          obtain ⟨z34, hz, hm⟩ := bindE hm
          refine w_cut (fun a' w' => Fr 71 [(0, [], .string ⟨⟨s⟩⟩), (1, [], .int .i64 z16.1), (7, [], .bool z16.2), (9, [], .int .i64 z34)] a' ∧ SH M X w [] w') ?_ ?_
          · replace hm := hz
            obtain ⟨y35, hy35, hm⟩ := bindE hm
            refine s_reg [(.int .u8 y35)] [0, 1, 7, 9, 10] [(0, [], .string ⟨⟨s⟩⟩), (1, [], .int .i64 z16.1), (7, [], .bool z16.2), (9, [], .int .i64 (w64 (z16.1 + 1))), (10, [], .int .u8 y35)] [fun wz => RetB Tryd.prog 24 ⟨[.string ⟨⟨s⟩⟩, .int .i64 (w64 (z16.1 + 1))]⟩ (.int .u8 y35) wz] H33 (by kernel_rfl) ⟨((r02_At_ok _ _ _ hy35).b), trivial⟩ fun _ wd36 H37 hb => ?_
            clear H33
            replace hS := hS.below hb
            clear hb
            refine s_reg [] [0, 1, 7, 9, 59] [(0, [], .string ⟨⟨s⟩⟩), (1, [], .int .i64 z16.1), (7, [], .bool z16.2), (9, [], .int .i64 (w64 (z16.1 + 1))), (59, [], .bool (cond (y35 == 43) true (y35 == 45)))] [] H37 (by kernel_rfl) trivial fun _ wd38 H39 hb => ?_
            clear H37
            replace hS := hS.below hb
            clear hb
            refine w_if H39 rfl (fun hc => ?_) (fun hc => ?_)
            · replace hm := bT hc hm
              refine w_reg [] [0, 1, 7, 9] [(0, [], .string ⟨⟨s⟩⟩), (1, [], .int .i64 z16.1), (7, [], .bool z16.2), (9, [], .int .i64 (w64 ((w64 (z16.1 + 1)) + 1)))] [] H39 (by kernel_rfl) trivial fun _ wd40 H41 hb => ?_
              clear H39
              replace hS := hS.below hb
              clear hb
              obtain rfl := someE hm
              exact ⟨Fr.keep (ks := [0, 1, 7, 9]) H41 (by kernel_rfl), hS⟩
            · replace hm := bF hc hm
              refine w_skip ?_
              obtain rfl := someE hm
              exact ⟨Fr.keep (ks := [0, 1, 7, 9]) H39 (by kernel_rfl), hS⟩
          · rintro _ wd50 ⟨H, hS⟩
            obtain ⟨y42, hy42, hm⟩ := bindE hm
            refine s_reg [(.int .u8 y42), (.bool (r02_Digit y42))] [0, 1, 7, 9, 65] [(0, [], .string ⟨⟨s⟩⟩), (1, [], .int .i64 z16.1), (7, [], .bool z16.2), (9, [], .int .i64 z34), (65, [], .bool (r02_Digit y42))] [fun wz => RetB Tryd.prog 24 ⟨[.string ⟨⟨s⟩⟩, .int .i64 z34]⟩ (.int .u8 y42) wz, fun wz => RetB Tryd.prog 25 ⟨[.int .u8 y42]⟩ (.bool (r02_Digit y42)) wz] H (by kernel_rfl) ⟨((r02_At_ok _ _ _ hy42).b), ((r02_Digit_ok _).b), trivial⟩ fun _ wd43 H44 hb => ?_
            clear H
            replace hS := hS.below hb
            clear hb
            refine w_if H44 rfl (fun hc => ?_) (fun hc => ?_)
            · replace hm := bT hc hm
              refine s_reg [] [0, 7, 9] [(0, [], .string ⟨⟨s⟩⟩), (7, [], .bool false), (9, [], .int .i64 z34)] [] H44 (by kernel_rfl) trivial fun _ wd45 H46 hb => ?_
              clear H44
              replace hS := hS.below hb
              clear hb
              obtain ⟨y47, hy47, hm⟩ := bindE hm
              refine w_reg [(.int .i64 y47)] [1, 7] [(1, [], .int .i64 y47), (7, [], .bool false)] [fun wz => RetB Tryd.prog 26 ⟨[.string ⟨⟨s⟩⟩, .int .i64 z34]⟩ (.int .i64 y47) wz] H46 (by kernel_rfl) ⟨((r02_digits_ok m _ _ _ hy47).b), trivial⟩ fun _ wd48 H49 hb => ?_
              clear H46
              replace hS := hS.below hb
              clear hb
              obtain rfl := someE hm
              exact ⟨Fr.keep (ks := [1, 7]) H49 (by kernel_rfl), hS⟩
            · replace hm := bF hc hm
              refine w_skip ?_
              obtain rfl := someE hm
              exact ⟨Fr.keep (ks := [1, 7]) H44 (by kernel_rfl), hS⟩
        · replace hm := bF hc hm
          refine w_skip ?_
          obtain rfl := someE hm
          exact ⟨Fr.keep (ks := [1, 7]) H31 (by kernel_rfl), hS⟩
      · rintro _ wd53 ⟨H, hS⟩
        refine s_reg [] [4, 5] [(4, [], .int .i64 z26.1), (5, [], .bool z26.2)] [] H (by kernel_rfl) trivial fun _ wd51 H52 hb => ?_
        clear H
        replace hS := hS.below hb
        clear hb
        refine w_ret ?_
        obtain rfl := someE hm
        exact retR2 H52 rfl rfl rfl ⟨_, rfl, rfl, (hS.sel [] rfl)⟩
theorem r02_NumberEnd_ok  (m : Nat) (s : Str) (i : Int) (r : Int × Bool) (hm : r02_NumberEnd m s i = some r) : Ret Tryd.prog 12 ⟨[.string ⟨⟨s⟩⟩, .int .i64 i]⟩ (.tuple ⟨[.int .i64 r.1, .bool r.2]⟩) := retP_of (Tryd.call12 _) (fun w h => r02_NumberEnd_w F0 m   s i r hm w h)

def r02_Thousandths_L1 (m : Nat) (s : Str) : Nat → Str → Int → Option (Str × Int)
  | 0, _, _ => none
  | kk + 1, v15, v16 =>
    Option.bind (r02_At s v16) fun y17 =>
    cond (r02_Digit y17) (
    chk (0 ≤ v16 ∧ v16 ≤ (w64 (v16 + 1)) ∧ (w64 (v16 + 1)) ≤ ln s) <|
    chk (ln v15 + ln (sub s v16 (w64 (v16 + 1))) ≤ 9223372036854775807) <|
    r02_Thousandths_L1 m s kk (v15 ++ (sub s v16 (w64 (v16 + 1)))) (w64 (v16 + 1))) (
    some (v15, v16))
def r02_Thousandths_L2 (m : Nat) (s : Str) : Nat → Str → Int → Int → Option (Str × Int × Int)
  | 0, _, _, _ => none
  | kk + 1, v33, v34, v35 =>
    Option.bind (r02_At s v35) fun y36 =>
    cond (r02_Digit y36) (
    chk (0 ≤ v35 ∧ v35 ≤ (w64 (v35 + 1)) ∧ (w64 (v35 + 1)) ≤ ln s) <|
    chk (ln v33 + ln (sub s v35 (w64 (v35 + 1))) ≤ 9223372036854775807) <|
    r02_Thousandths_L2 m s kk (v33 ++ (sub s v35 (w64 (v35 + 1)))) (w64 (v34 - 1)) (w64 (v35 + 1))) (
    some (v33, v34, v35))
def r02_Thousandths_L3 (m : Nat) (s : Str) : Nat → Int → Int → Option (Int)
  | 0, _, _ => none
  | kk + 1, v65, v66 =>
    cond (decide (v65 < (ln s))) (
    chk (0 ≤ v65 ∧ v65 < ln s) <|
    lt (w64 ((w64 (10 * v66)) + (w64 (wu8 ((bat s v65) - 48))))) fun x70 =>
    r02_Thousandths_L3 m s kk (w64 (v65 + 1)) (if x70 < 10000 then x70 else 10000)) (
    some v66)
def r02_Thousandths_L4 (m : Nat) (z27 : Str × Int × Int) (z48 : Int) : Nat → Int → Int → Option (Int)
  | 0, _, _ => none
  | kk + 1, v91, v92 =>
    lt (cond (decide (v92 < (w64 ((ln z27.1) + z48)))) (decide (v92 < (ln z27.1))) false) fun x93 =>
    cond x93 (
    chk (0 ≤ v92 ∧ v92 < ln z27.1) <|
    lt (w64 ((w64 (10 * v91)) + (w64 (wu8 ((bat z27.1 v92) - 48))))) fun x97 =>
    lt (if x97 < 1000000000000 then x97 else 1000000000000) fun x98 =>
    r02_Thousandths_L4 m z27 z48 kk x98 (w64 (v92 + 1))) (
    some v91)
def r02_Thousandths_L5 (m : Nat)  : Nat → Int → Int → Option (Int)
  | 0, _, _ => none
  | kk + 1, v105, v106 =>
    lt (cond (decide (0 < v105)) (decide (0 < v106)) false) fun x107 =>
    lt (cond x107 (decide (v106 < 1000000000000)) false) fun x108 =>
    cond x108 (
    lt (if w64 (10 * v106) < 1000000000000 then w64 (10 * v106) else 1000000000000) fun x111 =>
    r02_Thousandths_L5 m  kk (w64 (v105 - 1)) x111) (
    some v106)
def r02_Thousandths (m : Nat) (s : Str) : Option (Int) :=
  chk (0 ≤ (0 : Int) ∧ (0 : Int) < ln s) <|
  Option.bind (
  lt (cond ((bat s 0) == 43) true ((bat s 0) == 45)) fun x9 =>
  cond x9 (
  some 1) (
  some 0)) fun (z8 : Int) =>
  Option.bind (
  r02_Thousandths_L1 m s m [] z8) fun (z14 : Str × Int) =>
  Option.bind (
  Option.bind (r02_At s z14.2) fun y28 =>
  cond (y28 == 46) (
  r02_Thousandths_L2 m s m z14.1 3 (w64 (z14.2 + 1))) (
  some (z14.1, 3, z14.2))) fun (z27 : Str × Int × Int) =>
  Option.bind (
  cond (decide (z27.2.2 < (ln s))) (
  chk (0 ≤ (w64 (z27.2.2 + 1)) ∧ (w64 (z27.2.2 + 1)) < ln s) <|
  Option.bind (
  lt (cond ((bat s (w64 (z27.2.2 + 1))) == 43) true ((bat s (w64 (z27.2.2 + 1))) == 45)) fun x57 =>
  cond x57 (
  some (w64 ((w64 (z27.2.2 + 1)) + 1))) (
  some (w64 (z27.2.2 + 1)))) fun (z56 : Int) =>
  Option.bind (
  r02_Thousandths_L3 m s m z56 0) fun (z64 : Int) =>
  Option.bind (
  cond ((bat s (w64 (z27.2.2 + 1))) == 45) (
  some (w64 (0 - z64))) (
  some z64)) fun (z76 : Int) =>
  some (w64 (z27.2.1 + z76))) (
  some z27.2.1)) fun (z48 : Int) =>
  Option.bind (
  r02_Thousandths_L4 m z27 z48 m 0 0) fun (z88 : Int) =>
  Option.bind (
  r02_Thousandths_L5 m  m z48 z88) fun (z104 : Int) =>
  cond ((bat s 0) == 45) (
  some (w64 (0 - z104))) (
  some z104)
theorem r02_Thousandths_w  (M : Av) (m : Nat) (s : Str) (r : Int) (hm : r02_Thousandths m s = some r) (w : World) (hS : S0 M [] w) : Calls Tryd.prog 13 ⟨[.string ⟨⟨s⟩⟩]⟩ w (fun e w' => ∃ v, e = .returned v ∧ v = .int .i64 r ∧ SH M (fpl []) w [] w') := by
  rw [r02_Thousandths] at hm
  have hS0 : SH M (fpl []) w [] w := hS
  generalize hX : fpl [] = X at hS0 ⊢
  clear hS hX
  have hS := hS0
  clear hS0
  refine calls_entryP Tryd.func13 rfl Tryd.ntmps13 rfl fun _ H => ?_
  refine s_reg [] [0] [(0, [], .string ⟨⟨s⟩⟩)] [] H (by kernel_rfl) trivial fun _ wd1 H2 hb => ?_
  clear H
  replace hS := hS.below hb
  clear hb
  refine s_reg [] [0, 3, 4, 5] [(0, [], .string ⟨⟨s⟩⟩), (3, [], .string ⟨⟨[]⟩⟩), (4, [], .int .i64 3), (5, [], .int .i64 0)] [] H2 (by kernel_rfl) trivial fun _ wd3 H4 hb => ?_
  clear H2
  replace hS := hS.below hb
  clear hb
  obtain ⟨ho5, hm⟩ := chkE hm
  refine s_reg [] [0, 3, 4, 5, 6] [(0, [], .string ⟨⟨s⟩⟩), (3, [], .string ⟨⟨[]⟩⟩), (4, [], .int .i64 3), (5, [], .int .i64 0), (6, [], .bool ((bat s 0) == 45))] [fun _ => 0 ≤ (0 : Int) ∧ (0 : Int) < ln s] H4 (by kernel_rfl) ⟨ho5, trivial⟩ fun _ wd6 H7 hb => ?_
  clear H4
  replace hS := hS.below hb
  clear hb
  obtain ⟨z8, hz, hm⟩ := bindE hm
  refine w_cut (fun a' w' => Fr 138 [(0, [], .string ⟨⟨s⟩⟩), (3, [], .string ⟨⟨[]⟩⟩), (4, [], .int .i64 3), (6, [], .bool ((bat s 0) == 45)), (5, [], .int .i64 z8)] a' ∧ SH M X w [] w') ?_ ?_
  · replace hm := hz
    obtain ⟨x9, hx9, hm⟩ := letE hm
    refine s_reg [] [0, 3, 4, 5, 6, 19] [(0, [], .string ⟨⟨s⟩⟩), (3, [], .string ⟨⟨[]⟩⟩), (4, [], .int .i64 3), (5, [], .int .i64 0), (6, [], .bool ((bat s 0) == 45)), (19, [], .bool x9)] [fun _ => 0 ≤ (0 : Int) ∧ (0 : Int) < ln s] H7 (by subst hx9; kernel_rfl) ⟨ho5, trivial⟩ fun _ wd10 H11 hb => ?_
    clear H7
    replace hS := hS.below hb
    clear hb
    refine w_if H11 rfl (fun hc => ?_) (fun hc => ?_)
    · replace hm := bT hc hm
      refine w_reg [] [0, 3, 4, 5, 6] [(0, [], .string ⟨⟨s⟩⟩), (3, [], .string ⟨⟨[]⟩⟩), (4, [], .int .i64 3), (5, [], .int .i64 1), (6, [], .bool ((bat s 0) == 45))] [] H11 (by kernel_rfl) trivial fun _ wd12 H13 hb => ?_
      clear H11
      replace hS := hS.below hb
      clear hb
      obtain rfl := someE hm
      exact ⟨Fr.keep (ks := [0, 3, 4, 6, 5]) H13 (by kernel_rfl), hS⟩
    · replace hm := bF hc hm
      refine w_skip ?_
      obtain rfl := someE hm
      exact ⟨Fr.keep (ks := [0, 3, 4, 6, 5]) H11 (by kernel_rfl), hS⟩
  · rintro _ wd128 ⟨H, hS⟩
    obtain ⟨z14, hz, hm⟩ := bindE hm
    refine w_cut (fun a' w' => Fr 138 [(0, [], .string ⟨⟨s⟩⟩), (4, [], .int .i64 3), (6, [], .bool ((bat s 0) == 45)), (3, [], .string ⟨⟨z14.1⟩⟩), (5, [], .int .i64 z14.2)] a' ∧ SH M X w [] w') ?_ ?_
    · replace hm := hz
      refine w_block ?_
      refine w_loop (fun kk a' w' => ∃ (v15 : Str) (v16 : Int), r02_Thousandths_L1 m s kk v15 v16 = some _ ∧ Fr 138 [(0, [], .string ⟨⟨s⟩⟩), (4, [], .int .i64 3), (6, [], .bool ((bat s 0) == 45)), (3, [], .string ⟨⟨v15⟩⟩), (5, [], .int .i64 v16)] a' ∧ SH M X w [] w') ⟨_, [], z8, hm, Fr.keep (ks := [0, 4, 6, 3, 5]) H (by kernel_rfl), hS⟩ ?_
      clear hm H hS
      rintro kk _ wd26 ⟨v15, v16, hm, H, hS⟩
      cases kk with
      | zero => exact noneE hm
      | succ kk =>
        rw [r02_Thousandths_L1] at hm
        refine w_seq ?_
        obtain ⟨y17, hy17, hm⟩ := bindE hm
        refine s_reg [(.int .u8 y17), (.bool (r02_Digit y17))] [0, 3, 4, 5, 6, 25] [(0, [], .string ⟨⟨s⟩⟩), (3, [], .string ⟨⟨v15⟩⟩), (4, [], .int .i64 3), (5, [], .int .i64 v16), (6, [], .bool ((bat s 0) == 45)), (25, [], .bool (r02_Digit y17))] [fun wz => RetB Tryd.prog 24 ⟨[.string ⟨⟨s⟩⟩, .int .i64 v16]⟩ (.int .u8 y17) wz, fun wz => RetB Tryd.prog 25 ⟨[.int .u8 y17]⟩ (.bool (r02_Digit y17)) wz] H (by kernel_rfl) ⟨((r02_At_ok _ _ _ hy17).b), ((r02_Digit_ok _).b), trivial⟩ fun _ wd18 H19 hb => ?_
        clear H
        replace hS := hS.below hb
        clear hb
        refine w_if H19 rfl (fun hc => ?_) (fun hc => ?_)
        · replace hm := bT hc hm
          refine w_skip ?_
          refine w_seq ?_
          refine w_block ?_
          obtain ⟨ho20, hm⟩ := chkE hm
          obtain ⟨ho21, hm⟩ := chkE hm
          refine w_reg [] [0, 3, 4, 5, 6] [(0, [], .string ⟨⟨s⟩⟩), (3, [], .string ⟨⟨v15 ++ (sub s v16 (w64 (v16 + 1)))⟩⟩), (4, [], .int .i64 3), (5, [], .int .i64 v16), (6, [], .bool ((bat s 0) == 45))] [fun _ => 0 ≤ v16 ∧ v16 ≤ (w64 (v16 + 1)) ∧ (w64 (v16 + 1)) ≤ ln s, fun _ => ln v15 + ln (sub s v16 (w64 (v16 + 1))) ≤ 9223372036854775807] H19 (by kernel_rfl) ⟨ho20, ho21, trivial⟩ fun _ wd22 H23 hb => ?_
          clear H19
          replace hS := hS.below hb
          clear hb
          refine w_reg [] [0, 3, 4, 5, 6] [(0, [], .string ⟨⟨s⟩⟩), (3, [], .string ⟨⟨v15 ++ (sub s v16 (w64 (v16 + 1)))⟩⟩), (4, [], .int .i64 3), (5, [], .int .i64 (w64 (v16 + 1))), (6, [], .bool ((bat s 0) == 45))] [] H23 (by kernel_rfl) trivial fun _ wd24 H25 hb => ?_
          clear H23
          replace hS := hS.below hb
          clear hb
          exact ⟨_, Nat.lt_succ_self _, v15 ++ (sub s v16 (w64 (v16 + 1))), w64 (v16 + 1), hm, Fr.keep (ks := [0, 4, 6, 3, 5]) H25 (by kernel_rfl), hS⟩
        · replace hm := bF hc hm
          refine w_exit rfl ?_
          obtain rfl := someE hm
          exact ⟨Fr.keep (ks := [0, 4, 6, 3, 5]) H19 (by kernel_rfl), hS⟩
    · rintro _ wd127 ⟨H, hS⟩
      obtain ⟨z27, hz, hm⟩ := bindE hm
      refine w_cut (fun a' w' => Fr 138 [(0, [], .string ⟨⟨s⟩⟩), (6, [], .bool ((bat s 0) == 45)), (3, [], .string ⟨⟨z27.1⟩⟩), (4, [], .int .i64 z27.2.1), (5, [], .int .i64 z27.2.2)] a' ∧ SH M X w [] w') ?_ ?_
      · replace hm := hz
        obtain ⟨y28, hy28, hm⟩ := bindE hm
        refine s_reg [(.int .u8 y28)] [0, 3, 4, 5, 6, 38] [(0, [], .string ⟨⟨s⟩⟩), (3, [], .string ⟨⟨z14.1⟩⟩), (4, [], .int .i64 3), (5, [], .int .i64 z14.2), (6, [], .bool ((bat s 0) == 45)), (38, [], .bool (y28 == 46))] [fun wz => RetB Tryd.prog 24 ⟨[.string ⟨⟨s⟩⟩, .int .i64 z14.2]⟩ (.int .u8 y28) wz] H (by kernel_rfl) ⟨((r02_At_ok _ _ _ hy28).b), trivial⟩ fun _ wd29 H30 hb => ?_
        clear H
        replace hS := hS.below hb
        clear hb
        refine w_if H30 rfl (fun hc => ?_) (fun hc => ?_)
        · replace hm := bT hc hm
          refine s_reg [] [0, 3, 4, 5, 6] [(0, [], .string ⟨⟨s⟩⟩), (3, [], .string ⟨⟨z14.1⟩⟩), (4, [], .int .i64 3), (5, [], .int .i64 (w64 (z14.2 + 1))), (6, [], .bool ((bat s 0) == 45))] [] H30 (by kernel_rfl) trivial fun _ wd31 H32 hb => ?_
          clear H30
          replace hS := hS.below hb
          clear hb
          refine w_block ?_
          refine w_loop (fun kk a' w' => ∃ (v33 : Str) (v34 : Int) (v35 : Int), r02_Thousandths_L2 m s kk v33 v34 v35 = some _ ∧ Fr 138 [(0, [], .string ⟨⟨s⟩⟩), (6, [], .bool ((bat s 0) == 45)), (3, [], .string ⟨⟨v33⟩⟩), (4, [], .int .i64 v34), (5, [], .int .i64 v35)] a' ∧ SH M X w [] w') ⟨_, z14.1, 3, w64 (z14.2 + 1), hm, Fr.keep (ks := [0, 6, 3, 4, 5]) H32 (by kernel_rfl), hS⟩ ?_
          clear hm H32 hS
          rintro kk _ wd47 ⟨v33, v34, v35, hm, H, hS⟩
          cases kk with
          | zero => exact noneE hm
          | succ kk =>
            rw [r02_Thousandths_L2] at hm
            refine w_seq ?_
            obtain ⟨y36, hy36, hm⟩ := bindE hm
            refine s_reg [(.int .u8 y36), (.bool (r02_Digit y36))] [0, 3, 4, 5, 6, 44] [(0, [], .string ⟨⟨s⟩⟩), (3, [], .string ⟨⟨v33⟩⟩), (4, [], .int .i64 v34), (5, [], .int .i64 v35), (6, [], .bool ((bat s 0) == 45)), (44, [], .bool (r02_Digit y36))] [fun wz => RetB Tryd.prog 24 ⟨[.string ⟨⟨s⟩⟩, .int .i64 v35]⟩ (.int .u8 y36) wz, fun wz => RetB Tryd.prog 25 ⟨[.int .u8 y36]⟩ (.bool (r02_Digit y36)) wz] H (by kernel_rfl) ⟨((r02_At_ok _ _ _ hy36).b), ((r02_Digit_ok _).b), trivial⟩ fun _ wd37 H38 hb => ?_
            clear H
            replace hS := hS.below hb
            clear hb
            refine w_if H38 rfl (fun hc => ?_) (fun hc => ?_)
            · replace hm := bT hc hm
              refine w_skip ?_
              refine w_seq ?_
              refine w_block ?_
              obtain ⟨ho39, hm⟩ := chkE hm
              obtain ⟨ho40, hm⟩ := chkE hm
              refine s_reg [] [0, 3, 4, 5, 6] [(0, [], .string ⟨⟨s⟩⟩), (3, [], .string ⟨⟨v33 ++ (sub s v35 (w64 (v35 + 1)))⟩⟩), (4, [], .int .i64 v34), (5, [], .int .i64 v35), (6, [], .bool ((bat s 0) == 45))] [fun _ => 0 ≤ v35 ∧ v35 ≤ (w64 (v35 + 1)) ∧ (w64 (v35 + 1)) ≤ ln s, fun _ => ln v33 + ln (sub s v35 (w64 (v35 + 1))) ≤ 9223372036854775807] H38 (by kernel_rfl) ⟨ho39, ho40, trivial⟩ fun _ wd41 H42 hb => ?_
              clear H38
              replace hS := hS.below hb
              clear hb
              refine w_reg [] [0, 3, 4, 5, 6] [(0, [], .string ⟨⟨s⟩⟩), (3, [], .string ⟨⟨v33 ++ (sub s v35 (w64 (v35 + 1)))⟩⟩), (4, [], .int .i64 (w64 (v34 - 1))), (5, [], .int .i64 v35), (6, [], .bool ((bat s 0) == 45))] [] H42 (by kernel_rfl) trivial fun _ wd43 H44 hb => ?_
              clear H42
              replace hS := hS.below hb
              clear hb
              refine w_reg [] [0, 3, 4, 5, 6] [(0, [], .string ⟨⟨s⟩⟩), (3, [], .string ⟨⟨v33 ++ (sub s v35 (w64 (v35 + 1)))⟩⟩), (4, [], .int .i64 (w64 (v34 - 1))), (5, [], .int .i64 (w64 (v35 + 1))), (6, [], .bool ((bat s 0) == 45))] [] H44 (by kernel_rfl) trivial fun _ wd45 H46 hb => ?_
              clear H44
              replace hS := hS.below hb
              clear hb
              exact ⟨_, Nat.lt_succ_self _, v33 ++ (sub s v35 (w64 (v35 + 1))), w64 (v34 - 1), w64 (v35 + 1), hm, Fr.keep (ks := [0, 6, 3, 4, 5]) H46 (by kernel_rfl), hS⟩
            · replace hm := bF hc hm
              refine w_exit rfl ?_
              obtain rfl := someE hm
              exact ⟨Fr.keep (ks := [0, 6, 3, 4, 5]) H38 (by kernel_rfl), hS⟩
        · replace hm := bF hc hm
          refine w_skip ?_
          obtain rfl := someE hm
          exact ⟨Fr.keep (ks := [0, 6, 3, 4, 5]) H30 (by kernel_rfl), hS⟩
      · rintro _ wd126 ⟨H, hS⟩
        obtain ⟨z48, hz, hm⟩ := bindE hm
        refine w_cut (fun a' w' => Fr 138 [(3, [], .string ⟨⟨z27.1⟩⟩), (6, [], .bool ((bat s 0) == 45)), (4, [], .int .i64 z48)] a' ∧ SH M X w [] w') ?_ ?_
        · replace hm := hz
          refine s_reg [] [0, 3, 4, 5, 6, 59] [(0, [], .string ⟨⟨s⟩⟩), (3, [], .string ⟨⟨z27.1⟩⟩), (4, [], .int .i64 z27.2.1), (5, [], .int .i64 z27.2.2), (6, [], .bool ((bat s 0) == 45)), (59, [], .bool (decide (z27.2.2 < (ln s))))] [] H (by kernel_rfl) trivial fun _ wd49 H50 hb => ?_
          clear H
          replace hS := hS.below hb
          clear hb
          refine w_if H50 rfl (fun hc => ?_) (fun hc => ?_)
          · replace hm := bT hc hm
            refine s_reg [] [0, 3, 4, 5, 6] [(0, [], .string ⟨⟨s⟩⟩), (3, [], .string ⟨⟨z27.1⟩⟩), (4, [], .int .i64 z27.2.1), (5, [], .int .i64 (w64 (z27.2.2 + 1))), (6, [], .bool ((bat s 0) == 45))] [] H50 (by kernel_rfl) trivial fun _ wd51 H52 hb => ?_
            clear H50
            replace hS := hS.below hb
            clear hb
            obtain ⟨ho53, hm⟩ := chkE hm
            refine s_reg [] [0, 3, 4, 5, 6, 7] [(0, [], .string ⟨⟨s⟩⟩), (3, [], .string ⟨⟨z27.1⟩⟩), (4, [], .int .i64 z27.2.1), (5, [], .int .i64 (w64 (z27.2.2 + 1))), (6, [], .bool ((bat s 0) == 45)), (7, [], .bool ((bat s (w64 (z27.2.2 + 1))) == 45))] [fun _ => 0 ≤ (w64 (z27.2.2 + 1)) ∧ (w64 (z27.2.2 + 1)) < ln s] H52 (by kernel_rfl) ⟨ho53, trivial⟩ fun _ wd54 H55 hb => ?_
            clear H52
            replace hS := hS.below hb
            clear hb
            obtain ⟨z56, hz, hm⟩ := bindE hm
            refine w_cut (fun a' w' => Fr 138 [(0, [], .string ⟨⟨s⟩⟩), (3, [], .string ⟨⟨z27.1⟩⟩), (4, [], .int .i64 z27.2.1), (6, [], .bool ((bat s 0) == 45)), (7, [], .bool ((bat s (w64 (z27.2.2 + 1))) == 45)), (5, [], .int .i64 z56)] a' ∧ SH M X w [] w') ?_ ?_
            · replace hm := hz
              obtain ⟨x57, hx57, hm⟩ := letE hm
              refine s_reg [] [0, 3, 4, 5, 6, 7, 72] [(0, [], .string ⟨⟨s⟩⟩), (3, [], .string ⟨⟨z27.1⟩⟩), (4, [], .int .i64 z27.2.1), (5, [], .int .i64 (w64 (z27.2.2 + 1))), (6, [], .bool ((bat s 0) == 45)), (7, [], .bool ((bat s (w64 (z27.2.2 + 1))) == 45)), (72, [], .bool x57)] [fun _ => 0 ≤ (w64 (z27.2.2 + 1)) ∧ (w64 (z27.2.2 + 1)) < ln s] H55 (by subst hx57; kernel_rfl) ⟨ho53, trivial⟩ fun _ wd58 H59 hb => ?_
              clear H55
              replace hS := hS.below hb
              clear hb
              refine w_if H59 rfl (fun hc => ?_) (fun hc => ?_)
              · replace hm := bT hc hm
                refine w_reg [] [0, 3, 4, 5, 6, 7] [(0, [], .string ⟨⟨s⟩⟩), (3, [], .string ⟨⟨z27.1⟩⟩), (4, [], .int .i64 z27.2.1), (5, [], .int .i64 (w64 ((w64 (z27.2.2 + 1)) + 1))), (6, [], .bool ((bat s 0) == 45)), (7, [], .bool ((bat s (w64 (z27.2.2 + 1))) == 45))] [] H59 (by kernel_rfl) trivial fun _ wd60 H61 hb => ?_
                clear H59
                replace hS := hS.below hb
                clear hb
                obtain rfl := someE hm
                exact ⟨Fr.keep (ks := [0, 3, 4, 6, 7, 5]) H61 (by kernel_rfl), hS⟩
              · replace hm := bF hc hm
                refine w_skip ?_
                obtain rfl := someE hm
                exact ⟨Fr.keep (ks := [0, 3, 4, 6, 7, 5]) H59 (by kernel_rfl), hS⟩
            · rintro _ wd85 ⟨H, hS⟩
              refine s_reg [] [0, 3, 4, 5, 6, 7, 8] [(0, [], .string ⟨⟨s⟩⟩), (3, [], .string ⟨⟨z27.1⟩⟩), (4, [], .int .i64 z27.2.1), (5, [], .int .i64 z56), (6, [], .bool ((bat s 0) == 45)), (7, [], .bool ((bat s (w64 (z27.2.2 + 1))) == 45)), (8, [], .int .i64 0)] [] H (by kernel_rfl) trivial fun _ wd62 H63 hb => ?_
              clear H
              replace hS := hS.below hb
              clear hb
              obtain ⟨z64, hz, hm⟩ := bindE hm
              refine w_cut (fun a' w' => Fr 138 [(3, [], .string ⟨⟨z27.1⟩⟩), (4, [], .int .i64 z27.2.1), (6, [], .bool ((bat s 0) == 45)), (7, [], .bool ((bat s (w64 (z27.2.2 + 1))) == 45)), (8, [], .int .i64 z64)] a' ∧ SH M X w [] w') ?_ ?_
              · replace hm := hz
                refine w_block ?_
                refine w_loop (fun kk a' w' => ∃ (v65 : Int) (v66 : Int), r02_Thousandths_L3 m s kk v65 v66 = some _ ∧ Fr 138 [(0, [], .string ⟨⟨s⟩⟩), (3, [], .string ⟨⟨z27.1⟩⟩), (4, [], .int .i64 z27.2.1), (6, [], .bool ((bat s 0) == 45)), (7, [], .bool ((bat s (w64 (z27.2.2 + 1))) == 45)), (5, [], .int .i64 v65), (8, [], .int .i64 v66)] a' ∧ SH M X w [] w') ⟨_, z56, 0, hm, Fr.keep (ks := [0, 3, 4, 6, 7, 5, 8]) H63 (by kernel_rfl), hS⟩ ?_
                clear hm H63 hS
                rintro kk _ wd75 ⟨v65, v66, hm, H, hS⟩
                cases kk with
                | zero => exact noneE hm
                | succ kk =>
                  rw [r02_Thousandths_L3] at hm
                  refine w_seq ?_
                  refine s_reg [] [0, 3, 4, 5, 6, 7, 8, 78] [(0, [], .string ⟨⟨s⟩⟩), (3, [], .string ⟨⟨z27.1⟩⟩), (4, [], .int .i64 z27.2.1), (5, [], .int .i64 v65), (6, [], .bool ((bat s 0) == 45)), (7, [], .bool ((bat s (w64 (z27.2.2 + 1))) == 45)), (8, [], .int .i64 v66), (78, [], .bool (decide (v65 < (ln s))))] [] H (by kernel_rfl) trivial fun _ wd67 H68 hb => ?_
                  clear H
                  replace hS := hS.below hb
                  clear hb
                  refine w_if H68 rfl (fun hc => ?_) (fun hc => ?_)
                  · replace hm := bT hc hm
                    refine w_skip ?_
                    refine w_seq ?_
                    refine w_block ?_
                    obtain ⟨ho69, hm⟩ := chkE hm
                    obtain ⟨x70, hx70, hm⟩ := letE hm
                    refine w_reg [] [0, 3, 4, 5, 6, 7, 8] [(0, [], .string ⟨⟨s⟩⟩), (3, [], .string ⟨⟨z27.1⟩⟩), (4, [], .int .i64 z27.2.1), (5, [], .int .i64 v65), (6, [], .bool ((bat s 0) == 45)), (7, [], .bool ((bat s (w64 (z27.2.2 + 1))) == 45)), (8, [], .int .i64 (if x70 < 10000 then x70 else 10000))] [fun _ => 0 ≤ v65 ∧ v65 < ln s] H68 (by subst hx70; kernel_rfl) ⟨ho69, trivial⟩ fun _ wd71 H72 hb => ?_
                    clear H68
                    replace hS := hS.below hb
                    clear hb
                    refine w_reg [] [0, 3, 4, 5, 6, 7, 8] [(0, [], .string ⟨⟨s⟩⟩), (3, [], .string ⟨⟨z27.1⟩⟩), (4, [], .int .i64 z27.2.1), (5, [], .int .i64 (w64 (v65 + 1))), (6, [], .bool ((bat s 0) == 45)), (7, [], .bool ((bat s (w64 (z27.2.2 + 1))) == 45)), (8, [], .int .i64 (if x70 < 10000 then x70 else 10000))] [] H72 (by kernel_rfl) trivial fun _ wd73 H74 hb => ?_
                    clear H72
                    replace hS := hS.below hb
                    clear hb
                    exact ⟨_, Nat.lt_succ_self _, w64 (v65 + 1), if x70 < 10000 then x70 else 10000, hm, Fr.keep (ks := [0, 3, 4, 6, 7, 5, 8]) H74 (by kernel_rfl), hS⟩
                  · replace hm := bF hc hm
                    refine w_exit rfl ?_
                    obtain rfl := someE hm
                    exact ⟨Fr.keep (ks := [3, 4, 6, 7, 8]) H68 (by kernel_rfl), hS⟩
              · rintro _ wd84 ⟨H, hS⟩
                obtain ⟨z76, hz, hm⟩ := bindE hm
                refine w_cut (fun a' w' => Fr 138 [(3, [], .string ⟨⟨z27.1⟩⟩), (4, [], .int .i64 z27.2.1), (6, [], .bool ((bat s 0) == 45)), (8, [], .int .i64 z76)] a' ∧ SH M X w [] w') ?_ ?_
                · replace hm := hz
                  refine s_reg [] [3, 4, 6, 8, 90] [(3, [], .string ⟨⟨z27.1⟩⟩), (4, [], .int .i64 z27.2.1), (6, [], .bool ((bat s 0) == 45)), (8, [], .int .i64 z64), (90, [], .bool ((bat s (w64 (z27.2.2 + 1))) == 45))] [] H (by kernel_rfl) trivial fun _ wd77 H78 hb => ?_
                  clear H
                  replace hS := hS.below hb
                  clear hb
                  refine w_if H78 rfl (fun hc => ?_) (fun hc => ?_)
                  · replace hm := bT hc hm
                    refine w_reg [] [3, 4, 6, 8] [(3, [], .string ⟨⟨z27.1⟩⟩), (4, [], .int .i64 z27.2.1), (6, [], .bool ((bat s 0) == 45)), (8, [], .int .i64 (w64 (0 - z64)))] [] H78 (by kernel_rfl) trivial fun _ wd79 H80 hb => ?_
                    clear H78
                    replace hS := hS.below hb
                    clear hb
                    obtain rfl := someE hm
                    exact ⟨Fr.keep (ks := [3, 4, 6, 8]) H80 (by kernel_rfl), hS⟩
                  · replace hm := bF hc hm
                    refine w_skip ?_
                    obtain rfl := someE hm
                    exact ⟨Fr.keep (ks := [3, 4, 6, 8]) H78 (by kernel_rfl), hS⟩
                · rintro _ wd83 ⟨H, hS⟩
                  refine w_reg [] [3, 4, 6] [(3, [], .string ⟨⟨z27.1⟩⟩), (4, [], .int .i64 (w64 (z27.2.1 + z76))), (6, [], .bool ((bat s 0) == 45))] [] H (by kernel_rfl) trivial fun _ wd81 H82 hb => ?_
                  clear H
                  replace hS := hS.below hb
                  clear hb
                  obtain rfl := someE hm
                  exact ⟨Fr.keep (ks := [3, 6, 4]) H82 (by kernel_rfl), hS⟩
          · replace hm := bF hc hm
            refine w_skip ?_
            obtain rfl := someE hm
            exact ⟨Fr.keep (ks := [3, 6, 4]) H50 (by kernel_rfl), hS⟩
        · rintro _ wd125 ⟨H, hS⟩
          refine s_reg [] [3, 4, 6, 9] [(3, [], .string ⟨⟨z27.1⟩⟩), (4, [], .int .i64 z48), (6, [], .bool ((bat s 0) == 45)), (9, [], .int .i64 0)] [] H (by kernel_rfl) trivial fun _ wd86 H87 hb => ?_
          clear H
          replace hS := hS.below hb
          clear hb
          obtain ⟨z88, hz, hm⟩ := bindE hm
          refine w_cut (fun a' w' => Fr 138 [(4, [], .int .i64 z48), (6, [], .bool ((bat s 0) == 45)), (9, [], .int .i64 z88)] a' ∧ SH M X w [] w') ?_ ?_
          · replace hm := hz
            refine s_reg [] [3, 4, 6, 9, 10] [(3, [], .string ⟨⟨z27.1⟩⟩), (4, [], .int .i64 z48), (6, [], .bool ((bat s 0) == 45)), (9, [], .int .i64 0), (10, [], .int .i64 0)] [] H87 (by kernel_rfl) trivial fun _ wd89 H90 hb => ?_
            clear H87
            replace hS := hS.below hb
            clear hb
            refine w_block ?_
            refine w_loop (fun kk a' w' => ∃ (v91 : Int) (v92 : Int), r02_Thousandths_L4 m z27 z48 kk v91 v92 = some _ ∧ Fr 138 [(3, [], .string ⟨⟨z27.1⟩⟩), (4, [], .int .i64 z48), (6, [], .bool ((bat s 0) == 45)), (9, [], .int .i64 v91), (10, [], .int .i64 v92)] a' ∧ SH M X w [] w') ⟨_, 0, 0, hm, Fr.keep (ks := [3, 4, 6, 9, 10]) H90 (by kernel_rfl), hS⟩ ?_
            clear hm H90 hS
            rintro kk _ wd103 ⟨v91, v92, hm, H, hS⟩
            cases kk with
            | zero => exact noneE hm
            | succ kk =>
              rw [r02_Thousandths_L4] at hm
              refine w_seq ?_
              obtain ⟨x93, hx93, hm⟩ := letE hm
              refine s_reg [] [3, 4, 6, 9, 10, 107] [(3, [], .string ⟨⟨z27.1⟩⟩), (4, [], .int .i64 z48), (6, [], .bool ((bat s 0) == 45)), (9, [], .int .i64 v91), (10, [], .int .i64 v92), (107, [], .bool x93)] [] H (by subst hx93; kernel_rfl) trivial fun _ wd94 H95 hb => ?_
              clear H
              replace hS := hS.below hb
              clear hb
              refine w_if H95 rfl (fun hc => ?_) (fun hc => ?_)
              · replace hm := bT hc hm
                refine w_skip ?_
                refine w_seq ?_
                refine w_block ?_
                obtain ⟨ho96, hm⟩ := chkE hm
                obtain ⟨x97, hx97, hm⟩ := letE hm
                obtain ⟨x98, hx98, hm⟩ := letE hm
                refine w_reg [] [3, 4, 6, 9, 10] [(3, [], .string ⟨⟨z27.1⟩⟩), (4, [], .int .i64 z48), (6, [], .bool ((bat s 0) == 45)), (9, [], .int .i64 x98), (10, [], .int .i64 v92)] [fun _ => 0 ≤ v92 ∧ v92 < ln z27.1] H95 (by subst hx97 hx98; kernel_rfl) ⟨ho96, trivial⟩ fun _ wd99 H100 hb => ?_
                clear H95
                replace hS := hS.below hb
                clear hb
                refine w_reg [] [3, 4, 6, 9, 10] [(3, [], .string ⟨⟨z27.1⟩⟩), (4, [], .int .i64 z48), (6, [], .bool ((bat s 0) == 45)), (9, [], .int .i64 x98), (10, [], .int .i64 (w64 (v92 + 1)))] [] H100 (by kernel_rfl) trivial fun _ wd101 H102 hb => ?_
                clear H100
                replace hS := hS.below hb
                clear hb
                exact ⟨_, Nat.lt_succ_self _, x98, w64 (v92 + 1), hm, Fr.keep (ks := [3, 4, 6, 9, 10]) H102 (by kernel_rfl), hS⟩
              · replace hm := bF hc hm
                refine w_exit rfl ?_
                obtain rfl := someE hm
                exact ⟨Fr.keep (ks := [4, 6, 9]) H95 (by kernel_rfl), hS⟩
          · rintro _ wd124 ⟨H, hS⟩
            obtain ⟨z104, hz, hm⟩ := bindE hm
            refine w_cut (fun a' w' => Fr 138 [(6, [], .bool ((bat s 0) == 45)), (9, [], .int .i64 z104)] a' ∧ SH M X w [] w') ?_ ?_
            · replace hm := hz
              refine w_block ?_
              refine w_loop (fun kk a' w' => ∃ (v105 : Int) (v106 : Int), r02_Thousandths_L5 m  kk v105 v106 = some _ ∧ Fr 138 [(6, [], .bool ((bat s 0) == 45)), (4, [], .int .i64 v105), (9, [], .int .i64 v106)] a' ∧ SH M X w [] w') ⟨_, z48, z88, hm, Fr.keep (ks := [6, 4, 9]) H (by kernel_rfl), hS⟩ ?_
              clear hm H hS
              rintro kk _ wd116 ⟨v105, v106, hm, H, hS⟩
              cases kk with
              | zero => exact noneE hm
              | succ kk =>
                rw [r02_Thousandths_L5] at hm
                refine w_seq ?_
                obtain ⟨x107, hx107, hm⟩ := letE hm
                obtain ⟨x108, hx108, hm⟩ := letE hm
                refine s_reg [] [4, 6, 9, 128] [(4, [], .int .i64 v105), (6, [], .bool ((bat s 0) == 45)), (9, [], .int .i64 v106), (128, [], .bool x108)] [] H (by subst hx107 hx108; kernel_rfl) trivial fun _ wd109 H110 hb => ?_
                clear H
                replace hS := hS.below hb
                clear hb
                refine w_if H110 rfl (fun hc => ?_) (fun hc => ?_)
                · replace hm := bT hc hm
                  refine w_skip ?_
                  refine w_seq ?_
                  refine w_block ?_
                  obtain ⟨x111, hx111, hm⟩ := letE hm
                  refine w_reg [] [4, 6, 9] [(4, [], .int .i64 v105), (6, [], .bool ((bat s 0) == 45)), (9, [], .int .i64 x111)] [] H110 (by subst hx111; kernel_rfl) trivial fun _ wd112 H113 hb => ?_
                  clear H110
                  replace hS := hS.below hb
                  clear hb
                  refine w_reg [] [4, 6, 9] [(4, [], .int .i64 (w64 (v105 - 1))), (6, [], .bool ((bat s 0) == 45)), (9, [], .int .i64 x111)] [] H113 (by kernel_rfl) trivial fun _ wd114 H115 hb => ?_
                  clear H113
                  replace hS := hS.below hb
                  clear hb
                  exact ⟨_, Nat.lt_succ_self _, w64 (v105 - 1), x111, hm, Fr.keep (ks := [6, 4, 9]) H115 (by kernel_rfl), hS⟩
                · replace hm := bF hc hm
                  refine w_exit rfl ?_
                  obtain rfl := someE hm
                  exact ⟨Fr.keep (ks := [6, 9]) H110 (by kernel_rfl), hS⟩
            · rintro _ wd123 ⟨H, hS⟩
              refine w_seq ?_
              refine s_reg [] [9, 134] [(9, [], .int .i64 z104), (134, [], .bool ((bat s 0) == 45))] [] H (by kernel_rfl) trivial fun _ wd117 H118 hb => ?_
              clear H
              replace hS := hS.below hb
              clear hb
              refine w_if H118 rfl (fun hc => ?_) (fun hc => ?_)
              · replace hm := bT hc hm
                refine s_reg [] [2] [(2, [], .int .i64 (w64 (0 - z104)))] [] H118 (by kernel_rfl) trivial fun _ wd119 H120 hb => ?_
                clear H118
                replace hS := hS.below hb
                clear hb
                refine w_ret ?_
                obtain rfl := someE hm
                exact retR1 H120 rfl rfl ⟨_, rfl, rfl, (hS.sel [] rfl)⟩
              · replace hm := bF hc hm
                refine w_skip ?_
                refine s_reg [] [2] [(2, [], .int .i64 z104)] [] H118 (by kernel_rfl) trivial fun _ wd121 H122 hb => ?_
                clear H118
                replace hS := hS.below hb
                clear hb
                refine w_ret ?_
                obtain rfl := someE hm
                exact retR1 H122 rfl rfl ⟨_, rfl, rfl, (hS.sel [] rfl)⟩
theorem r02_Thousandths_ok  (m : Nat) (s : Str) (r : Int) (hm : r02_Thousandths m s = some r) : Ret Tryd.prog 13 ⟨[.string ⟨⟨s⟩⟩]⟩ (.int .i64 r) := retP_of (Tryd.call13 _) (fun w h => r02_Thousandths_w F0 m   s r hm w h)

def r02_Value (m : Nat) (s : Str) : Option (Int × Bool × Int) :=
  cond (decide (4000 < (ln s))) (
  some (0, false, 28)) (
  Option.bind (r02_NumberAt s 0) fun y7 =>
  cond (!y7) (
  some (0, false, 12)) (
  Option.bind (r02_NumberEnd m s 0) fun y12 =>
  cond (y12.1 != (ln s)) (
  some (0, false, 12)) (
  Option.bind (r02_Thousandths m s) fun y19 =>
  some (y19, y12.2, 0))))
theorem r02_Value_w  (M : Av) (m : Nat) (s : Str) (r : Int × Bool × Int) (hm : r02_Value m s = some r) (w : World) (hS : S0 M [] w) : Calls Tryd.prog 5 ⟨[.string ⟨⟨s⟩⟩]⟩ w (fun e w' => ∃ v, e = .returned v ∧ v = .tuple ⟨[.int .i64 r.1, .bool r.2.1, .int .i64 r.2.2]⟩ ∧ SH M (fpl []) w [] w') := by
  rw [r02_Value] at hm
  have hS0 : SH M (fpl []) w [] w := hS
  generalize hX : fpl [] = X at hS0 ⊢
  clear hS hX
  have hS := hS0
  clear hS0
  refine calls_entryP Tryd.func5 rfl Tryd.ntmps5 rfl fun _ H => ?_
  refine s_reg [] [0] [(0, [], .string ⟨⟨s⟩⟩)] [] H (by kernel_rfl) trivial fun _ wd1 H2 hb => ?_
  clear H
  replace hS := hS.below hb
  clear hb
  refine w_seq ?_
  refine s_reg [] [0, 9] [(0, [], .string ⟨⟨s⟩⟩), (9, [], .bool (decide (4000 < (ln s))))] [] H2 (by kernel_rfl) trivial fun _ wd3 H4 hb => ?_
  clear H2
  replace hS := hS.below hb
  clear hb
  refine w_if H4 rfl (fun hc => ?_) (fun hc => ?_)
  · replace hm := bT hc hm
    refine s_reg [] [2, 3, 4] [(2, [], .int .i64 0), (3, [], .bool false), (4, [], .int .i64 28)] [] H4 (by kernel_rfl) trivial fun _ wd5 H6 hb => ?_
    clear H4
    replace hS := hS.below hb
    clear hb
    refine w_ret ?_
    obtain rfl := someE hm
    exact retR3 H6 rfl rfl rfl rfl ⟨_, rfl, rfl, (hS.sel [] rfl)⟩
  · replace hm := bF hc hm
    refine w_skip ?_
    refine w_seq ?_
    obtain ⟨y7, hy7, hm⟩ := bindE hm
    refine s_reg [(.bool y7)] [0, 12] [(0, [], .string ⟨⟨s⟩⟩), (12, [], .bool (!y7))] [fun wz => RetB Tryd.prog 11 ⟨[.string ⟨⟨s⟩⟩, .int .i64 0]⟩ (.bool y7) wz] H4 (by kernel_rfl) ⟨((r02_NumberAt_ok _ _ _ hy7).b), trivial⟩ fun _ wd8 H9 hb => ?_
    clear H4
    replace hS := hS.below hb
    clear hb
    refine w_if H9 rfl (fun hc => ?_) (fun hc => ?_)
    · replace hm := bT hc hm
      refine s_reg [] [2, 3, 4] [(2, [], .int .i64 0), (3, [], .bool false), (4, [], .int .i64 12)] [] H9 (by kernel_rfl) trivial fun _ wd10 H11 hb => ?_
      clear H9
      replace hS := hS.below hb
      clear hb
      refine w_ret ?_
      obtain rfl := someE hm
      exact retR3 H11 rfl rfl rfl rfl ⟨_, rfl, rfl, (hS.sel [] rfl)⟩
    · replace hm := bF hc hm
      refine w_skip ?_
      obtain ⟨y12, hy12, hm⟩ := bindE hm
      refine s_reg [(.tuple ⟨[.int .i64 y12.1, .bool y12.2]⟩)] [0, 5, 6] [(0, [], .string ⟨⟨s⟩⟩), (5, [], .int .i64 y12.1), (6, [], .bool y12.2)] [fun wz => RetB Tryd.prog 12 ⟨[.string ⟨⟨s⟩⟩, .int .i64 0]⟩ (.tuple ⟨[.int .i64 y12.1, .bool y12.2]⟩) wz] H9 (by kernel_rfl) ⟨((r02_NumberEnd_ok m _ _ _ hy12).b), trivial⟩ fun _ wd13 H14 hb => ?_
      clear H9
      replace hS := hS.below hb
      clear hb
      refine w_seq ?_
      refine s_reg [] [0, 6, 21] [(0, [], .string ⟨⟨s⟩⟩), (6, [], .bool y12.2), (21, [], .bool (y12.1 != (ln s)))] [] H14 (by kernel_rfl) trivial fun _ wd15 H16 hb => ?_
      clear H14
      replace hS := hS.below hb
      clear hb
      refine w_if H16 rfl (fun hc => ?_) (fun hc => ?_)
      · replace hm := bT hc hm
        refine s_reg [] [2, 3, 4] [(2, [], .int .i64 0), (3, [], .bool false), (4, [], .int .i64 12)] [] H16 (by kernel_rfl) trivial fun _ wd17 H18 hb => ?_
        clear H16
        replace hS := hS.below hb
        clear hb
        refine w_ret ?_
        obtain rfl := someE hm
        exact retR3 H18 rfl rfl rfl rfl ⟨_, rfl, rfl, (hS.sel [] rfl)⟩
      · replace hm := bF hc hm
        refine w_skip ?_
        obtain ⟨y19, hy19, hm⟩ := bindE hm
        refine s_reg [(.int .i64 y19)] [2, 3, 4] [(2, [], .int .i64 y19), (3, [], .bool y12.2), (4, [], .int .i64 0)] [fun wz => RetB Tryd.prog 13 ⟨[.string ⟨⟨s⟩⟩]⟩ (.int .i64 y19) wz] H16 (by kernel_rfl) ⟨((r02_Thousandths_ok m _ _ hy19).b), trivial⟩ fun _ wd20 H21 hb => ?_
        clear H16
        replace hS := hS.below hb
        clear hb
        refine w_ret ?_
        obtain rfl := someE hm
        exact retR3 H21 rfl rfl rfl rfl ⟨_, rfl, rfl, (hS.sel [] rfl)⟩
theorem r02_Value_ok  (m : Nat) (s : Str) (r : Int × Bool × Int) (hm : r02_Value m s = some r) : Ret Tryd.prog 5 ⟨[.string ⟨⟨s⟩⟩]⟩ (.tuple ⟨[.int .i64 r.1, .bool r.2.1, .int .i64 r.2.2]⟩) := retP_of (Tryd.call5 _) (fun w h => r02_Value_w F0 m   s r hm w h)

def token_first (b_ : Int) : Bool :=
  lt (token_within (ibit .or .i64 b_ 32) 97 122) fun y3 =>
  lt (cond (cond y3 (decide (b_ < 128)) false) (decide (64 < b_)) false) fun x4 =>
  lt (cond (cond x4 true (b_ == 95)) true (decide (128 ≤ b_))) fun x5 =>
  x5
theorem token_first_w  (M : Av) (b_ : Int) (r : Bool) (hm : token_first b_ = r) (w : World) (hS : S0 M [] w) : Calls Tryd.prog 27 ⟨[.int .i64 b_]⟩ w (fun e w' => ∃ v, e = .returned v ∧ v = .bool r ∧ SH M (fpl []) w [] w') := by
  rw [token_first] at hm
  have hS0 : SH M (fpl []) w [] w := hS
  generalize hX : fpl [] = X at hS0 ⊢
  clear hS hX
  have hS := hS0
  clear hS0
  refine calls_entryP Tryd.func27 rfl Tryd.ntmps27 rfl fun _ H => ?_
  refine s_reg [] [0] [(0, [], .int .i64 b_)] [] H (by kernel_rfl) trivial fun _ wd1 H2 hb => ?_
  clear H
  replace hS := hS.below hb
  clear hb
  obtain ⟨y3, hy3, hm⟩ := letE hm
  obtain ⟨x4, hx4, hm⟩ := letE hm
  obtain ⟨x5, hx5, hm⟩ := letE hm
  refine s_reg [(.bool y3)] [2] [(2, [], .bool x5)] [fun wz => RetB Tryd.prog 35 ⟨[.int .i64 (ibit .or .i64 b_ 32), .int .i64 97, .int .i64 122]⟩ (.bool y3) wz] H2 (by subst hy3 hx4 hx5; kernel_rfl) ⟨((by rw [hy3]; exact (token_within_ok _ _ _).b)), trivial⟩ fun _ wd6 H7 hb => ?_
  clear H2
  replace hS := hS.below hb
  clear hb
  refine w_ret ?_
  subst hm
  exact retR1 H7 rfl rfl ⟨_, rfl, rfl, (hS.sel [] rfl)⟩
theorem token_first_ok  (b_ : Int) : Ret Tryd.prog 27 ⟨[.int .i64 b_]⟩ (.bool (token_first b_)) := retP_of (Tryd.call27 _) (fun w h => token_first_w F0   b_ _ rfl w h)

def token_scanner_escape (c_s : Str) (c_at_ : Int) (n_ : Int) : Option (Bool) :=
  Option.bind (token_scanner_peek c_s c_at_ n_) fun y3 =>
  Option.bind (cond (y3 == 92) (token_scanner_peek c_s c_at_ (w64 (n_ + 1))) (some default)) fun y4 =>
  some (cond (y3 == 92) (y4 != 10) false)
theorem token_scanner_escape_w {b_c : Nat} (M : Av) (c_s : Str) (c_at_ : Int) (n_ : Int) (r : Bool) (hm : token_scanner_escape c_s c_at_ n_ = some r) (w : World) (hS : S0 M [Ent.ro b_c [.string ⟨⟨c_s⟩⟩, .int .i64 c_at_]] w) : Calls Tryd.prog 28 ⟨[.pointer (some ⟨b_c, 0, none⟩), .int .i64 n_]⟩ w (fun e w' => ∃ v, e = .returned v ∧ v = .bool r ∧ SH M (fpl [Ent.ro b_c [.string ⟨⟨c_s⟩⟩, .int .i64 c_at_]]) w [] w') := by
  rw [token_scanner_escape] at hm
  have hS0 : SH M (fpl [Ent.ro b_c [.string ⟨⟨c_s⟩⟩, .int .i64 c_at_]]) w [Ent.ro b_c [.string ⟨⟨c_s⟩⟩, .int .i64 c_at_]] w := hS
  generalize hX : fpl [Ent.ro b_c [.string ⟨⟨c_s⟩⟩, .int .i64 c_at_]] = X at hS0 ⊢
  clear hS hX
  have hS := hS0
  clear hS0
  refine calls_entryP Tryd.func28 rfl Tryd.ntmps28 rfl fun _ H => ?_
  refine s_reg [] [0, 1] [(0, [], .pointer (some ⟨b_c, 0, none⟩)), (1, [], .int .i64 n_)] [] H (by kernel_rfl) trivial fun _ wd1 H2 hb => ?_
  clear H
  replace hS := hS.below hb
  clear hb
  obtain ⟨y3, hy3, hm⟩ := bindE hm
  obtain ⟨y4, hy4, hm⟩ := bindE hm
  refine s_reg [(.int .i64 y3), (.int .i64 y4)] [4] [(4, [], .bool (cond (y3 == 92) (y4 != 10) false))] [fun wz => RetB Tryd.prog 18 ⟨[.pointer (some ⟨b_c, 0, none⟩), .int .i64 n_]⟩ (.int .i64 y3) wz, fun wz => ((y3 == 92) = true ∧ True → RetB Tryd.prog 18 ⟨[.pointer (some ⟨b_c, 0, none⟩), .int .i64 (w64 (n_ + 1))]⟩ (.int .i64 y4) wz)] H2 (by kernel_rfl) ⟨(token_scanner_peek_ok (b_c := b_c) _ _ _ _ hy3 _ (s0ro s0nil (hS.ro 0 rfl))), fun hg => token_scanner_peek_ok (b_c := b_c) _ _ _ _ (bT (hg.1) hy4) _ (s0ro s0nil (hS.ro 0 rfl)), trivial⟩ fun _ wd5 H6 hb => ?_
  clear H2
  replace hS := hS.below hb
  clear hb
  replace hS : SH M X w [] _ := hS.sel [] rfl
  refine w_ret ?_
  obtain rfl := someE hm
  exact retR1 H6 rfl rfl ⟨_, rfl, rfl, (hS.sel [] rfl)⟩
theorem token_scanner_escape_ok {b_c : Nat} (c_s : Str) (c_at_ : Int) (n_ : Int) (r : Bool) (hm : token_scanner_escape c_s c_at_ n_ = some r) (w : World) (hL : S0 F0 [Ent.ro b_c [.string ⟨⟨c_s⟩⟩, .int .i64 c_at_]] w ∧ fpl [Ent.ro b_c [.string ⟨⟨c_s⟩⟩, .int .i64 c_at_]] = []) : RetB Tryd.prog 28 ⟨[.pointer (some ⟨b_c, 0, none⟩), .int .i64 n_]⟩ (.bool r) w := retB_of hL (Tryd.call28 _) (fun w' h => token_scanner_escape_w F0   c_s c_at_ n_ r hm w' h)

def token_scanner_name (c_s : Str) (c_at_ : Int) (n_ : Int) : Option (Bool) :=
  Option.bind (token_scanner_peek c_s c_at_ n_) fun y3 =>
  cond (y3 != 45) (
  Option.bind (token_scanner_peek c_s c_at_ n_) fun y6 =>
  Option.bind (cond (token_first y6) (some default) (token_scanner_escape c_s c_at_ n_)) fun y7 =>
  some (cond (token_first y6) true y7)) (
  Option.bind (token_scanner_peek c_s c_at_ (w64 (n_ + 1))) fun y10 =>
  Option.bind (cond (token_first y10) (some default) (token_scanner_peek c_s c_at_ (w64 (n_ + 1)))) fun y11 =>
  Option.bind (cond (cond (token_first y10) true (y11 == 45)) (some default) (token_scanner_escape c_s c_at_ (w64 (n_ + 1)))) fun y12 =>
  lt (cond (cond (token_first y10) true (y11 == 45)) true y12) fun x13 =>
  some x13)
theorem token_scanner_name_w {b_c : Nat} (M : Av) (c_s : Str) (c_at_ : Int) (n_ : Int) (r : Bool) (hm : token_scanner_name c_s c_at_ n_ = some r) (w : World) (hS : S0 M [Ent.ro b_c [.string ⟨⟨c_s⟩⟩, .int .i64 c_at_]] w) : Calls Tryd.prog 14 ⟨[.pointer (some ⟨b_c, 0, none⟩), .int .i64 n_]⟩ w (fun e w' => ∃ v, e = .returned v ∧ v = .bool r ∧ SH M (fpl [Ent.ro b_c [.string ⟨⟨c_s⟩⟩, .int .i64 c_at_]]) w [] w') := by
  rw [token_scanner_name] at hm
  have hS0 : SH M (fpl [Ent.ro b_c [.string ⟨⟨c_s⟩⟩, .int .i64 c_at_]]) w [Ent.ro b_c [.string ⟨⟨c_s⟩⟩, .int .i64 c_at_]] w := hS
  generalize hX : fpl [Ent.ro b_c [.string ⟨⟨c_s⟩⟩, .int .i64 c_at_]] = X at hS0 ⊢
  clear hS hX
  have hS := hS0
  clear hS0
  refine calls_entryP Tryd.func14 rfl Tryd.ntmps14 rfl fun _ H => ?_
  refine s_reg [] [0, 1] [(0, [], .pointer (some ⟨b_c, 0, none⟩)), (1, [], .int .i64 n_)] [] H (by kernel_rfl) trivial fun _ wd1 H2 hb => ?_
  clear H
  replace hS := hS.below hb
  clear hb
  refine w_seq ?_
  obtain ⟨y3, hy3, hm⟩ := bindE hm
  refine s_reg [(.int .i64 y3)] [0, 1, 8] [(0, [], .pointer (some ⟨b_c, 0, none⟩)), (1, [], .int .i64 n_), (8, [], .bool (y3 != 45))] [fun wz => RetB Tryd.prog 18 ⟨[.pointer (some ⟨b_c, 0, none⟩), .int .i64 n_]⟩ (.int .i64 y3) wz] H2 (by kernel_rfl) ⟨(token_scanner_peek_ok (b_c := b_c) _ _ _ _ hy3 _ (s0ro s0nil (hS.ro 0 rfl))), trivial⟩ fun _ wd4 H5 hb => ?_
  clear H2
  replace hS := hS.below hb
  clear hb
  refine w_if H5 rfl (fun hc => ?_) (fun hc => ?_)
  · replace hm := bT hc hm
    obtain ⟨y6, hy6, hm⟩ := bindE hm
    obtain ⟨y7, hy7, hm⟩ := bindE hm
    refine s_reg [(.int .i64 y6), (.bool (token_first y6)), (.bool y7)] [4] [(4, [], .bool (cond (token_first y6) true y7))] [fun wz => RetB Tryd.prog 18 ⟨[.pointer (some ⟨b_c, 0, none⟩), .int .i64 n_]⟩ (.int .i64 y6) wz, fun wz => RetB Tryd.prog 27 ⟨[.int .i64 y6]⟩ (.bool (token_first y6)) wz, fun wz => ((token_first y6) = false ∧ True → RetB Tryd.prog 28 ⟨[.pointer (some ⟨b_c, 0, none⟩), .int .i64 n_]⟩ (.bool y7) wz)] H5 (by kernel_rfl) ⟨(token_scanner_peek_ok (b_c := b_c) _ _ _ _ hy6 _ (s0ro s0nil (hS.ro 0 rfl))), ((token_first_ok _).b), fun hg => token_scanner_escape_ok (b_c := b_c) _ _ _ _ (bF (hg.1) hy7) _ (s0ro s0nil (hS.ro 0 rfl)), trivial⟩ fun _ wd8 H9 hb => ?_
    clear H5
    replace hS := hS.below hb
    clear hb
    replace hS : SH M X w [] _ := hS.sel [] rfl
    refine w_ret ?_
    obtain rfl := someE hm
    exact retR1 H9 rfl rfl ⟨_, rfl, rfl, (hS.sel [] rfl)⟩
  · replace hm := bF hc hm
    refine w_skip ?_
    obtain ⟨y10, hy10, hm⟩ := bindE hm
    obtain ⟨y11, hy11, hm⟩ := bindE hm
    obtain ⟨y12, hy12, hm⟩ := bindE hm
    obtain ⟨x13, hx13, hm⟩ := letE hm
    refine s_reg [(.int .i64 y10), (.bool (token_first y10)), (.int .i64 y11), (.bool y12)] [4] [(4, [], .bool x13)] [fun wz => RetB Tryd.prog 18 ⟨[.pointer (some ⟨b_c, 0, none⟩), .int .i64 (w64 (n_ + 1))]⟩ (.int .i64 y10) wz, fun wz => RetB Tryd.prog 27 ⟨[.int .i64 y10]⟩ (.bool (token_first y10)) wz, fun wz => ((token_first y10) = false ∧ True → RetB Tryd.prog 18 ⟨[.pointer (some ⟨b_c, 0, none⟩), .int .i64 (w64 (n_ + 1))]⟩ (.int .i64 y11) wz), fun wz => ((cond (token_first y10) true (y11 == 45)) = false ∧ True → RetB Tryd.prog 28 ⟨[.pointer (some ⟨b_c, 0, none⟩), .int .i64 (w64 (n_ + 1))]⟩ (.bool y12) wz)] H5 (by subst hx13; kernel_rfl) ⟨(token_scanner_peek_ok (b_c := b_c) _ _ _ _ hy10 _ (s0ro s0nil (hS.ro 0 rfl))), ((token_first_ok _).b), fun hg => token_scanner_peek_ok (b_c := b_c) _ _ _ _ (bF (hg.1) hy11) _ (s0ro s0nil (hS.ro 0 rfl)), fun hg => token_scanner_escape_ok (b_c := b_c) _ _ _ _ (bF (hg.1) hy12) _ (s0ro s0nil (hS.ro 0 rfl)), trivial⟩ fun _ wd14 H15 hb => ?_
    clear H5
    replace hS := hS.below hb
    clear hb
    replace hS : SH M X w [] _ := hS.sel [] rfl
    refine w_ret ?_
    obtain rfl := someE hm
    exact retR1 H15 rfl rfl ⟨_, rfl, rfl, (hS.sel [] rfl)⟩
theorem token_scanner_name_ok {b_c : Nat} (c_s : Str) (c_at_ : Int) (n_ : Int) (r : Bool) (hm : token_scanner_name c_s c_at_ n_ = some r) (w : World) (hL : S0 F0 [Ent.ro b_c [.string ⟨⟨c_s⟩⟩, .int .i64 c_at_]] w ∧ fpl [Ent.ro b_c [.string ⟨⟨c_s⟩⟩, .int .i64 c_at_]] = []) : RetB Tryd.prog 14 ⟨[.pointer (some ⟨b_c, 0, none⟩), .int .i64 n_]⟩ (.bool r) w := retB_of hL (Tryd.call14 _) (fun w' h => token_scanner_name_w F0   c_s c_at_ n_ r hm w' h)

def token_letter (b_ : Int) : Bool :=
  lt (cond (token_first b_) true (token_digit b_)) fun x3 =>
  cond x3 true (b_ == 45)
theorem token_letter_w  (M : Av) (b_ : Int) (r : Bool) (hm : token_letter b_ = r) (w : World) (hS : S0 M [] w) : Calls Tryd.prog 29 ⟨[.int .i64 b_]⟩ w (fun e w' => ∃ v, e = .returned v ∧ v = .bool r ∧ SH M (fpl []) w [] w') := by
  rw [token_letter] at hm
  have hS0 : SH M (fpl []) w [] w := hS
  generalize hX : fpl [] = X at hS0 ⊢
  clear hS hX
  have hS := hS0
  clear hS0
  refine calls_entryP Tryd.func29 rfl Tryd.ntmps29 rfl fun _ H => ?_
  refine s_reg [] [0] [(0, [], .int .i64 b_)] [] H (by kernel_rfl) trivial fun _ wd1 H2 hb => ?_
  clear H
  replace hS := hS.below hb
  clear hb
  obtain ⟨x3, hx3, hm⟩ := letE hm
  refine s_reg [(.bool (token_first b_)), (.bool (token_digit b_))] [2] [(2, [], .bool (cond x3 true (b_ == 45)))] [fun wz => RetB Tryd.prog 27 ⟨[.int .i64 b_]⟩ (.bool (token_first b_)) wz, fun wz => ((token_first b_) = false ∧ True → RetB Tryd.prog 19 ⟨[.int .i64 b_]⟩ (.bool (token_digit b_)) wz)] H2 (by subst hx3; kernel_rfl) ⟨((token_first_ok _).b), fun hg => (token_digit_ok _).b, trivial⟩ fun _ wd4 H5 hb => ?_
  clear H2
  replace hS := hS.below hb
  clear hb
  refine w_ret ?_
  subst hm
  exact retR1 H5 rfl rfl ⟨_, rfl, rfl, (hS.sel [] rfl)⟩
theorem token_letter_ok  (b_ : Int) : Ret Tryd.prog 29 ⟨[.int .i64 b_]⟩ (.bool (token_letter b_)) := retP_of (Tryd.call29 _) (fun w h => token_letter_w F0   b_ _ rfl w h)

def unicode_utf8_appendRuneNonASCII (p : List Int) (r_ : Int) : Option (List Int) :=
  cond (decide ((wu32 r_) ≤ 2047)) (
  lt (ibit .or .u8 192 (wu8 (Int.fdiv r_ (2 ^ 6)))) fun x7 =>
  lt (ibit .or .u8 128 (ibit .and .u8 (wu8 r_) 63)) fun x8 =>
  chk (ln p + ln ([x7, x8] : List Int) ≤ 1099511627776) <|
  lt (p ++ ([x7, x8] : List Int)) fun q16 =>
  some q16) (
  Option.bind (
  cond (decide ((wu32 r_) < 55296)) (
  some (decide ((wu32 r_) < 55296))) (
  lt (cond (decide (57343 < (wu32 r_))) (decide ((wu32 r_) ≤ 65535)) false) fun x25 =>
  some x25)) fun (z22 : Bool) =>
  cond z22 (
  lt (ibit .or .u8 224 (wu8 (Int.fdiv r_ (2 ^ 12)))) fun x28 =>
  lt (ibit .and .u8 (wu8 (Int.fdiv r_ (2 ^ 6))) 63) fun x29 =>
  lt (ibit .or .u8 128 (ibit .and .u8 (wu8 r_) 63)) fun x30 =>
  chk (ln p + ln ([x28, ibit .or .u8 128 x29, x30] : List Int) ≤ 1099511627776) <|
  lt (p ++ ([x28, ibit .or .u8 128 x29, x30] : List Int)) fun q38 =>
  some q38) (
  lt (cond (decide (65535 < (wu32 r_))) (decide ((wu32 r_) ≤ 1114111)) false) fun x44 =>
  cond x44 (
  lt (ibit .or .u8 240 (wu8 (Int.fdiv r_ (2 ^ 18)))) fun x47 =>
  lt (ibit .and .u8 (wu8 (Int.fdiv r_ (2 ^ 12))) 63) fun x48 =>
  lt (ibit .and .u8 (wu8 (Int.fdiv r_ (2 ^ 6))) 63) fun x49 =>
  lt (ibit .or .u8 128 (ibit .and .u8 (wu8 r_) 63)) fun x50 =>
  chk (ln p + ln ([x47, ibit .or .u8 128 x48, ibit .or .u8 128 x49, x50] : List Int) ≤ 1099511627776) <|
  lt (p ++ ([x47, ibit .or .u8 128 x48, ibit .or .u8 128 x49, x50] : List Int)) fun q58 =>
  some q58) (
  chk (ln p + ln ([239, 191, 189] : List Int) ≤ 1099511627776) <|
  lt (p ++ ([239, 191, 189] : List Int)) fun q71 =>
  some q71)))
theorem unicode_utf8_appendRuneNonASCII_w {g_p : Gh} (M : Av) (p : List Int) (r_ : Int) (r : List Int) (hm : unicode_utf8_appendRuneNonASCII p r_ = some r) (w : World) (hS : S0 M [Ent.own 5 (tI .u8) p g_p] w) : Calls Tryd.prog 59 ⟨[.slice g_p.a p.length g_p.c, .int .i32 r_]⟩ w (fun e w' => ∃ v, e = .returned v ∧ ∃ (g901 : Gh), v = .slice g901.a r.length g901.c ∧ SH M (fpl [Ent.own 5 (tI .u8) p g_p]) w [Ent.own 5 (tI .u8) r g901] w') := by
  rw [unicode_utf8_appendRuneNonASCII] at hm
  have hS0 : SH M (fpl [Ent.own 5 (tI .u8) p g_p]) w [Ent.own 5 (tI .u8) p g_p] w := hS
  generalize hX : fpl [Ent.own 5 (tI .u8) p g_p] = X at hS0 ⊢
  clear hS hX
  have hS := hS0
  clear hS0
  refine calls_entryP Tryd.func59 rfl Tryd.ntmps59 rfl fun _ H => ?_
  refine s_reg [] [0, 1] [(0, [], .slice g_p.a p.length g_p.c), (1, [], .int .i32 r_)] [] H (by kernel_rfl) trivial fun _ wd1 H2 hb => ?_
  clear H
  replace hS := hS.below hb
  clear hb
  refine s_reg [] [0, 1, 5] [(0, [], .slice g_p.a p.length g_p.c), (1, [], .int .i32 r_), (5, [], .int .u32 (wu32 r_))] [] H2 (by kernel_rfl) trivial fun _ wd3 H4 hb => ?_
  clear H2
  replace hS := hS.below hb
  clear hb
  refine w_block ?_
  refine s_reg [] [0, 1, 5, 11] [(0, [], .slice g_p.a p.length g_p.c), (1, [], .int .i32 r_), (5, [], .int .u32 (wu32 r_)), (11, [], .bool (decide ((wu32 r_) ≤ 2047)))] [] H4 (by kernel_rfl) trivial fun _ wd5 H6 hb => ?_
  clear H4
  replace hS := hS.below hb
  clear hb
  refine w_if H6 rfl (fun hc => ?_) (fun hc => ?_)
  · replace hm := bT hc hm
    refine w_seq ?_
    refine wl_start ?_
    obtain ⟨x7, hx7, hm⟩ := letE hm
    obtain ⟨x8, hx8, hm⟩ := letE hm
    refine wl_batch 0 9 [] [14, 18, 22] [(14, [], .slice g_p.a p.length g_p.c), (18, [], .int .u8 x7), (22, [], .int .u8 x8)] [fun _ => (0 : Int) ≤ 6] H6 (by decide) (by subst hx7 hx8; kernel_rfl) ⟨(by show (0 : Int) ≤ 6; decide), trivial⟩ fun _ wd9 H10 hb => ?_
    clear H6
    replace hS := hS.below hb
    clear hb
    have hd : S0 (AvL M [Ent.own 5 (tI .u8) p g_p]) [] _ := hS.hand [] [0] rfl rfl
    refine m_stp [23, 14] [(14, [], .slice g_p.a p.length g_p.c)] H10 rfl rfl rfl rfl (o_lit (T := (tI .u8)) (E := 5) (zv := .int .u8 0) [.int .u8 x7, .int .u8 x8] ([x7, x8] : List Int) [gL [], gL []] _ H10 hd rfl (by kernel_rfl) (by kernel_rfl) (by kernel_rfl) (by kernel_rfl) (by kernel_rfl) (by kernel_rfl) (by kernel_rfl) rfl (InnL.cons trivial (InnL.cons trivial InnL.nil))) (fun _ => rfl) fun _ wd13 v H14 hq => ?_
    clear H10 hd
    obtain ⟨g11, rfl, hq⟩ := hq
    replace hS : SH M X w [Ent.own 5 (tI .u8) ([x7, x8] : List Int) g11, Ent.own 5 (tI .u8) p g_p] _ := hS.join [] [0] rfl rfl hq
    clear hq
    obtain ⟨ho15, hm⟩ := chkE hm
    obtain ⟨q16, hq16, hm⟩ := letE hm
    have hd : S0 (AvL M []) [Ent.own 5 (tI .u8) p g_p, Ent.own 5 (tI .u8) ([x7, x8] : List Int) g11] _ := hS.hand [1, 0] [] rfl rfl
    refine m_stp [24] [] H14 rfl rfl rfl rfl (o_app2 (T := (tI .u8)) (zv := .int .u8 0) (g1 := g_p) (g2 := g11) (l1 := p) (l2 := ([x7, x8] : List Int)) q16 hq16.symm H14 hd rfl rfl rfl rfl rfl rfl rfl (by kernel_rfl) (by kernel_rfl) rfl rfl ho15) (fun _ => rfl) fun _ wd17 v H18 hq => ?_
    clear H14 hd
    obtain ⟨g19, rfl, hq⟩ := hq
    replace hS : SH M X w [Ent.own 5 (tI .u8) q16 g19, Ent.own 5 (tI .u8) ([x7, x8] : List Int) g11] _ := hS.join [1, 0] [] rfl rfl hq
    clear hq
    refine wl_batch 11 12 [] [4] [(4, [], .slice g19.a q16.length g19.c)] [] H18 (by decide) (by kernel_rfl) trivial fun _ wd20 H21 hb => ?_
    clear H18
    replace hS := hS.below hb
    clear hb
    refine wl_end rfl ?_
    replace hS : SH M X w [Ent.own 5 (tI .u8) q16 g19] _ := hS.sel [0] rfl
    refine w_ret ?_
    obtain rfl := someE hm
    exact retR1 H21 rfl rfl ⟨_, rfl, g19, rfl, (hS.sel [0] rfl)⟩
  · replace hm := bF hc hm
    obtain ⟨z22, hz, hm⟩ := bindE hm
    refine w_cut (fun a' w' => Fr 78 [(0, [], .slice g_p.a p.length g_p.c), (1, [], .int .i32 r_), (5, [], .int .u32 (wu32 r_)), (25, [], .bool z22)] a' ∧ SH M X w [Ent.own 5 (tI .u8) p g_p] w') ?_ ?_
    · replace hm := hz
      refine s_reg [] [0, 1, 5, 25] [(0, [], .slice g_p.a p.length g_p.c), (1, [], .int .i32 r_), (5, [], .int .u32 (wu32 r_)), (25, [], .bool (decide ((wu32 r_) < 55296)))] [] H6 (by kernel_rfl) trivial fun _ wd23 H24 hb => ?_
      clear H6
      replace hS := hS.below hb
      clear hb
      refine w_if H24 rfl (fun hc => ?_) (fun hc => ?_)
      · replace hm := bT hc hm
        refine w_skip ?_
        obtain rfl := someE hm
        exact ⟨Fr.keep (ks := [0, 1, 5, 25]) H24 (by kernel_rfl), hS⟩
      · replace hm := bF hc hm
        obtain ⟨x25, hx25, hm⟩ := letE hm
        refine w_reg [] [0, 1, 5, 25] [(0, [], .slice g_p.a p.length g_p.c), (1, [], .int .i32 r_), (5, [], .int .u32 (wu32 r_)), (25, [], .bool x25)] [] H24 (by subst hx25; kernel_rfl) trivial fun _ wd26 H27 hb => ?_
        clear H24
        replace hS := hS.below hb
        clear hb
        obtain rfl := someE hm
        exact ⟨Fr.keep (ks := [0, 1, 5, 25]) H27 (by kernel_rfl), hS⟩
    · rintro _ wd77 ⟨H, hS⟩
      refine w_if H rfl (fun hc => ?_) (fun hc => ?_)
      · replace hm := bT hc hm
        refine w_seq ?_
        refine wl_start ?_
        obtain ⟨x28, hx28, hm⟩ := letE hm
        obtain ⟨x29, hx29, hm⟩ := letE hm
        obtain ⟨x30, hx30, hm⟩ := letE hm
        refine wl_batch 0 14 [] [34, 38, 43, 47] [(34, [], .slice g_p.a p.length g_p.c), (38, [], .int .u8 x28), (43, [], .int .u8 (ibit .or .u8 128 x29)), (47, [], .int .u8 x30)] [fun _ => (0 : Int) ≤ 12, fun _ => (0 : Int) ≤ 6] H (by decide) (by subst hx28 hx29 hx30; kernel_rfl) ⟨(by show (0 : Int) ≤ 12; decide), (by show (0 : Int) ≤ 6; decide), trivial⟩ fun _ wd31 H32 hb => ?_
        clear H
        replace hS := hS.below hb
        clear hb
        have hd : S0 (AvL M [Ent.own 5 (tI .u8) p g_p]) [] _ := hS.hand [] [0] rfl rfl
        refine m_stp [48, 34] [(34, [], .slice g_p.a p.length g_p.c)] H32 rfl rfl rfl rfl (o_lit (T := (tI .u8)) (E := 5) (zv := .int .u8 0) [.int .u8 x28, .int .u8 (ibit .or .u8 128 x29), .int .u8 x30] ([x28, ibit .or .u8 128 x29, x30] : List Int) [gL [], gL [], gL []] _ H32 hd rfl (by kernel_rfl) (by kernel_rfl) (by kernel_rfl) (by kernel_rfl) (by kernel_rfl) (by kernel_rfl) (by kernel_rfl) rfl (InnL.cons trivial (InnL.cons trivial (InnL.cons trivial InnL.nil)))) (fun _ => rfl) fun _ wd35 v H36 hq => ?_
        clear H32 hd
        obtain ⟨g33, rfl, hq⟩ := hq
        replace hS : SH M X w [Ent.own 5 (tI .u8) ([x28, ibit .or .u8 128 x29, x30] : List Int) g33, Ent.own 5 (tI .u8) p g_p] _ := hS.join [] [0] rfl rfl hq
        clear hq
        obtain ⟨ho37, hm⟩ := chkE hm
        obtain ⟨q38, hq38, hm⟩ := letE hm
        have hd : S0 (AvL M []) [Ent.own 5 (tI .u8) p g_p, Ent.own 5 (tI .u8) ([x28, ibit .or .u8 128 x29, x30] : List Int) g33] _ := hS.hand [1, 0] [] rfl rfl
        refine m_stp [49] [] H36 rfl rfl rfl rfl (o_app2 (T := (tI .u8)) (zv := .int .u8 0) (g1 := g_p) (g2 := g33) (l1 := p) (l2 := ([x28, ibit .or .u8 128 x29, x30] : List Int)) q38 hq38.symm H36 hd rfl rfl rfl rfl rfl rfl rfl (by kernel_rfl) (by kernel_rfl) rfl rfl ho37) (fun _ => rfl) fun _ wd39 v H40 hq => ?_
        clear H36 hd
        obtain ⟨g41, rfl, hq⟩ := hq
        replace hS : SH M X w [Ent.own 5 (tI .u8) q38 g41, Ent.own 5 (tI .u8) ([x28, ibit .or .u8 128 x29, x30] : List Int) g33] _ := hS.join [1, 0] [] rfl rfl hq
        clear hq
        refine wl_batch 16 17 [] [4] [(4, [], .slice g41.a q38.length g41.c)] [] H40 (by decide) (by kernel_rfl) trivial fun _ wd42 H43 hb => ?_
        clear H40
        replace hS := hS.below hb
        clear hb
        refine wl_end rfl ?_
        replace hS : SH M X w [Ent.own 5 (tI .u8) q38 g41] _ := hS.sel [0] rfl
        refine w_ret ?_
        obtain rfl := someE hm
        exact retR1 H43 rfl rfl ⟨_, rfl, g41, rfl, (hS.sel [0] rfl)⟩
      · replace hm := bF hc hm
        obtain ⟨x44, hx44, hm⟩ := letE hm
        refine s_reg [] [0, 1, 50] [(0, [], .slice g_p.a p.length g_p.c), (1, [], .int .i32 r_), (50, [], .bool x44)] [] H (by subst hx44; kernel_rfl) trivial fun _ wd45 H46 hb => ?_
        clear H
        replace hS := hS.below hb
        clear hb
        refine w_if H46 rfl (fun hc => ?_) (fun hc => ?_)
        · replace hm := bT hc hm
          refine w_seq ?_
          refine wl_start ?_
          obtain ⟨x47, hx47, hm⟩ := letE hm
          obtain ⟨x48, hx48, hm⟩ := letE hm
          obtain ⟨x49, hx49, hm⟩ := letE hm
          obtain ⟨x50, hx50, hm⟩ := letE hm
          refine wl_batch 0 19 [] [57, 61, 66, 71, 75] [(57, [], .slice g_p.a p.length g_p.c), (61, [], .int .u8 x47), (66, [], .int .u8 (ibit .or .u8 128 x48)), (71, [], .int .u8 (ibit .or .u8 128 x49)), (75, [], .int .u8 x50)] [fun _ => (0 : Int) ≤ 18, fun _ => (0 : Int) ≤ 12, fun _ => (0 : Int) ≤ 6] H46 (by decide) (by subst hx47 hx48 hx49 hx50; kernel_rfl) ⟨(by show (0 : Int) ≤ 18; decide), (by show (0 : Int) ≤ 12; decide), (by show (0 : Int) ≤ 6; decide), trivial⟩ fun _ wd51 H52 hb => ?_
          clear H46
          replace hS := hS.below hb
          clear hb
          have hd : S0 (AvL M [Ent.own 5 (tI .u8) p g_p]) [] _ := hS.hand [] [0] rfl rfl
          refine m_stp [76, 57] [(57, [], .slice g_p.a p.length g_p.c)] H52 rfl rfl rfl rfl (o_lit (T := (tI .u8)) (E := 5) (zv := .int .u8 0) [.int .u8 x47, .int .u8 (ibit .or .u8 128 x48), .int .u8 (ibit .or .u8 128 x49), .int .u8 x50] ([x47, ibit .or .u8 128 x48, ibit .or .u8 128 x49, x50] : List Int) [gL [], gL [], gL [], gL []] _ H52 hd rfl (by kernel_rfl) (by kernel_rfl) (by kernel_rfl) (by kernel_rfl) (by kernel_rfl) (by kernel_rfl) (by kernel_rfl) rfl (InnL.cons trivial (InnL.cons trivial (InnL.cons trivial (InnL.cons trivial InnL.nil))))) (fun _ => rfl) fun _ wd55 v H56 hq => ?_
          clear H52 hd
          obtain ⟨g53, rfl, hq⟩ := hq
          replace hS : SH M X w [Ent.own 5 (tI .u8) ([x47, ibit .or .u8 128 x48, ibit .or .u8 128 x49, x50] : List Int) g53, Ent.own 5 (tI .u8) p g_p] _ := hS.join [] [0] rfl rfl hq
          clear hq
          obtain ⟨ho57, hm⟩ := chkE hm
          obtain ⟨q58, hq58, hm⟩ := letE hm
          have hd : S0 (AvL M []) [Ent.own 5 (tI .u8) p g_p, Ent.own 5 (tI .u8) ([x47, ibit .or .u8 128 x48, ibit .or .u8 128 x49, x50] : List Int) g53] _ := hS.hand [1, 0] [] rfl rfl
          refine m_stp [77] [] H56 rfl rfl rfl rfl (o_app2 (T := (tI .u8)) (zv := .int .u8 0) (g1 := g_p) (g2 := g53) (l1 := p) (l2 := ([x47, ibit .or .u8 128 x48, ibit .or .u8 128 x49, x50] : List Int)) q58 hq58.symm H56 hd rfl rfl rfl rfl rfl rfl rfl (by kernel_rfl) (by kernel_rfl) rfl rfl ho57) (fun _ => rfl) fun _ wd59 v H60 hq => ?_
          clear H56 hd
          obtain ⟨g61, rfl, hq⟩ := hq
          replace hS : SH M X w [Ent.own 5 (tI .u8) q58 g61, Ent.own 5 (tI .u8) ([x47, ibit .or .u8 128 x48, ibit .or .u8 128 x49, x50] : List Int) g53] _ := hS.join [1, 0] [] rfl rfl hq
          clear hq
          refine wl_batch 21 22 [] [4] [(4, [], .slice g61.a q58.length g61.c)] [] H60 (by decide) (by kernel_rfl) trivial fun _ wd62 H63 hb => ?_
          clear H60
          replace hS := hS.below hb
          clear hb
          refine wl_end rfl ?_
          replace hS : SH M X w [Ent.own 5 (tI .u8) q58 g61] _ := hS.sel [0] rfl
          refine w_ret ?_
          obtain rfl := someE hm
          exact retR1 H63 rfl rfl ⟨_, rfl, g61, rfl, (hS.sel [0] rfl)⟩
        · replace hm := bF hc hm
          refine w_seq ?_
          refine wl_start ?_
          refine wl_batch 0 1 [] [8] [(8, [], .slice g_p.a p.length g_p.c)] [] H46 (by decide) (by kernel_rfl) trivial fun _ wd64 H65 hb => ?_
          clear H46
          replace hS := hS.below hb
          clear hb
          have hd : S0 (AvL M [Ent.own 5 (tI .u8) p g_p]) [] _ := hS.hand [] [0] rfl rfl
          refine m_stp [9, 8] [(8, [], .slice g_p.a p.length g_p.c)] H65 rfl rfl rfl rfl (o_lit (T := (tI .u8)) (E := 5) (zv := .int .u8 0) [.int .u8 239, .int .u8 191, .int .u8 189] ([239, 191, 189] : List Int) [gL [], gL [], gL []] _ H65 hd rfl (by kernel_rfl) (by kernel_rfl) (by kernel_rfl) (by kernel_rfl) (by kernel_rfl) (by kernel_rfl) (by kernel_rfl) rfl (InnL.cons trivial (InnL.cons trivial (InnL.cons trivial InnL.nil)))) (fun _ => rfl) fun _ wd68 v H69 hq => ?_
          clear H65 hd
          obtain ⟨g66, rfl, hq⟩ := hq
          replace hS : SH M X w [Ent.own 5 (tI .u8) ([239, 191, 189] : List Int) g66, Ent.own 5 (tI .u8) p g_p] _ := hS.join [] [0] rfl rfl hq
          clear hq
          obtain ⟨ho70, hm⟩ := chkE hm
          obtain ⟨q71, hq71, hm⟩ := letE hm
          have hd : S0 (AvL M []) [Ent.own 5 (tI .u8) p g_p, Ent.own 5 (tI .u8) ([239, 191, 189] : List Int) g66] _ := hS.hand [1, 0] [] rfl rfl
          refine m_stp [10] [] H69 rfl rfl rfl rfl (o_app2 (T := (tI .u8)) (zv := .int .u8 0) (g1 := g_p) (g2 := g66) (l1 := p) (l2 := ([239, 191, 189] : List Int)) q71 hq71.symm H69 hd rfl rfl rfl rfl rfl rfl rfl (by kernel_rfl) (by kernel_rfl) rfl rfl ho70) (fun _ => rfl) fun _ wd72 v H73 hq => ?_
          clear H69 hd
          obtain ⟨g74, rfl, hq⟩ := hq
          replace hS : SH M X w [Ent.own 5 (tI .u8) q71 g74, Ent.own 5 (tI .u8) ([239, 191, 189] : List Int) g66] _ := hS.join [1, 0] [] rfl rfl hq
          clear hq
          refine wl_batch 3 4 [] [4] [(4, [], .slice g74.a q71.length g74.c)] [] H73 (by decide) (by kernel_rfl) trivial fun _ wd75 H76 hb => ?_
          clear H73
          replace hS := hS.below hb
          clear hb
          refine wl_end rfl ?_
          replace hS : SH M X w [Ent.own 5 (tI .u8) q71 g74] _ := hS.sel [0] rfl
          refine w_ret ?_
          obtain rfl := someE hm
          exact retR1 H76 rfl rfl ⟨_, rfl, g74, rfl, (hS.sel [0] rfl)⟩
theorem unicode_utf8_appendRuneNonASCII_ok {g_p : Gh} (p : List Int) (r_ : Int) (r : List Int) (hm : unicode_utf8_appendRuneNonASCII p r_ = some r) (M : Av) (w : World) (hS : S0 M [Ent.own 5 (tI .u8) p g_p] w) : DoesX Tryd.prog 59 ⟨[.slice g_p.a p.length g_p.c, .int .i32 r_]⟩ w (fun v w' => ∃ (g901 : Gh), v = .slice g901.a r.length g901.c ∧ SH M (fpl [Ent.own 5 (tI .u8) p g_p]) w [Ent.own 5 (tI .u8) r g901] w') := ⟨Tryd.call59 _, unicode_utf8_appendRuneNonASCII_w M   p r_ r hm w hS⟩

def unicode_utf8_AppendRune (p : List Int) (r_ : Int) : Option (List Int) :=
  cond (decide ((wu32 r_) ≤ 127)) (
  chk (ln p + ln ([wu8 r_] : List Int) ≤ 1099511627776) <|
  lt (p ++ ([wu8 r_] : List Int)) fun q12 =>
  some q12) (
  Option.bind (unicode_utf8_appendRuneNonASCII p r_) fun y20 =>
  some y20)
theorem unicode_utf8_AppendRune_w {g_p : Gh} (M : Av) (p : List Int) (r_ : Int) (r : List Int) (hm : unicode_utf8_AppendRune p r_ = some r) (w : World) (hS : S0 M [Ent.own 5 (tI .u8) p g_p] w) : Calls Tryd.prog 44 ⟨[.slice g_p.a p.length g_p.c, .int .i32 r_]⟩ w (fun e w' => ∃ v, e = .returned v ∧ ∃ (g901 : Gh), v = .slice g901.a r.length g901.c ∧ SH M (fpl [Ent.own 5 (tI .u8) p g_p]) w [Ent.own 5 (tI .u8) r g901] w') := by
  rw [unicode_utf8_AppendRune] at hm
  have hS0 : SH M (fpl [Ent.own 5 (tI .u8) p g_p]) w [Ent.own 5 (tI .u8) p g_p] w := hS
  generalize hX : fpl [Ent.own 5 (tI .u8) p g_p] = X at hS0 ⊢
  clear hS hX
  have hS := hS0
  clear hS0
  refine calls_entryP Tryd.func44 rfl Tryd.ntmps44 rfl fun _ H => ?_
  refine s_reg [] [0, 1] [(0, [], .slice g_p.a p.length g_p.c), (1, [], .int .i32 r_)] [] H (by kernel_rfl) trivial fun _ wd1 H2 hb => ?_
  clear H
  replace hS := hS.below hb
  clear hb
  refine w_seq ?_
  refine s_reg [] [0, 1, 7] [(0, [], .slice g_p.a p.length g_p.c), (1, [], .int .i32 r_), (7, [], .bool (decide ((wu32 r_) ≤ 127)))] [] H2 (by kernel_rfl) trivial fun _ wd3 H4 hb => ?_
  clear H2
  replace hS := hS.below hb
  clear hb
  refine w_if H4 rfl (fun hc => ?_) (fun hc => ?_)
  · replace hm := bT hc hm
    refine w_seq ?_
    refine wl_start ?_
    refine wl_batch 0 3 [] [8, 10] [(8, [], .slice g_p.a p.length g_p.c), (10, [], .int .u8 (wu8 r_))] [] H4 (by decide) (by kernel_rfl) trivial fun _ wd5 H6 hb => ?_
    clear H4
    replace hS := hS.below hb
    clear hb
    have hd : S0 (AvL M [Ent.own 5 (tI .u8) p g_p]) [] _ := hS.hand [] [0] rfl rfl
    refine m_stp [11, 8] [(8, [], .slice g_p.a p.length g_p.c)] H6 rfl rfl rfl rfl (o_lit (T := (tI .u8)) (E := 5) (zv := .int .u8 0) [.int .u8 (wu8 r_)] ([wu8 r_] : List Int) [gL []] _ H6 hd rfl (by kernel_rfl) (by kernel_rfl) (by kernel_rfl) (by kernel_rfl) (by kernel_rfl) (by kernel_rfl) (by kernel_rfl) rfl (InnL.cons trivial InnL.nil)) (fun _ => rfl) fun _ wd9 v H10 hq => ?_
    clear H6 hd
    obtain ⟨g7, rfl, hq⟩ := hq
    replace hS : SH M X w [Ent.own 5 (tI .u8) ([wu8 r_] : List Int) g7, Ent.own 5 (tI .u8) p g_p] _ := hS.join [] [0] rfl rfl hq
    clear hq
    obtain ⟨ho11, hm⟩ := chkE hm
    obtain ⟨q12, hq12, hm⟩ := letE hm
    have hd : S0 (AvL M []) [Ent.own 5 (tI .u8) p g_p, Ent.own 5 (tI .u8) ([wu8 r_] : List Int) g7] _ := hS.hand [1, 0] [] rfl rfl
    refine m_stp [12] [] H10 rfl rfl rfl rfl (o_app2 (T := (tI .u8)) (zv := .int .u8 0) (g1 := g_p) (g2 := g7) (l1 := p) (l2 := ([wu8 r_] : List Int)) q12 hq12.symm H10 hd rfl rfl rfl rfl rfl rfl rfl (by kernel_rfl) (by kernel_rfl) rfl rfl ho11) (fun _ => rfl) fun _ wd13 v H14 hq => ?_
    clear H10 hd
    obtain ⟨g15, rfl, hq⟩ := hq
    replace hS : SH M X w [Ent.own 5 (tI .u8) q12 g15, Ent.own 5 (tI .u8) ([wu8 r_] : List Int) g7] _ := hS.join [1, 0] [] rfl rfl hq
    clear hq
    refine wl_batch 5 6 [] [4] [(4, [], .slice g15.a q12.length g15.c)] [] H14 (by decide) (by kernel_rfl) trivial fun _ wd16 H17 hb => ?_
    clear H14
    replace hS := hS.below hb
    clear hb
    refine wl_end rfl ?_
    replace hS : SH M X w [Ent.own 5 (tI .u8) q12 g15] _ := hS.sel [0] rfl
    refine w_ret ?_
    obtain rfl := someE hm
    exact retR1 H17 rfl rfl ⟨_, rfl, g15, rfl, (hS.sel [0] rfl)⟩
  · replace hm := bF hc hm
    refine w_skip ?_
    refine w_seq ?_
    refine wl_start ?_
    refine wl_batch 0 2 [] [13, 14] [(13, [], .slice g_p.a p.length g_p.c), (14, [], .int .i32 r_)] [] H4 (by decide) (by kernel_rfl) trivial fun _ wd18 H19 hb => ?_
    clear H4
    replace hS := hS.below hb
    clear hb
    obtain ⟨y20, hy20, hm⟩ := bindE hm
    have hd : S0 (AvL M []) [Ent.own 5 (tI .u8) p g_p] _ := hS.hand [0] [] rfl rfl
    refine m_stp [15] [] H19 rfl rfl rfl rfl (o_callx H19 rfl rfl (unicode_utf8_appendRuneNonASCII_ok (g_p := g_p) _ _ _ hy20 _ _ hd)) (fun _ => rfl) fun _ wd23 v H24 hq => ?_
    clear H19 hd
    obtain ⟨g21, rfl, hq⟩ := hq
    replace hS : SH M X w [Ent.own 5 (tI .u8) y20 g21] _ := hS.join [0] [] rfl rfl hq
    clear hq
    refine wl_batch 3 4 [] [4] [(4, [], .slice g21.a y20.length g21.c)] [] H24 (by decide) (by kernel_rfl) trivial fun _ wd25 H26 hb => ?_
    clear H24
    replace hS := hS.below hb
    clear hb
    refine wl_end rfl ?_
    refine w_ret ?_
    obtain rfl := someE hm
    exact retR1 H26 rfl rfl ⟨_, rfl, g21, rfl, (hS.sel [0] rfl)⟩
theorem unicode_utf8_AppendRune_ok {g_p : Gh} (p : List Int) (r_ : Int) (r : List Int) (hm : unicode_utf8_AppendRune p r_ = some r) (M : Av) (w : World) (hS : S0 M [Ent.own 5 (tI .u8) p g_p] w) : DoesX Tryd.prog 44 ⟨[.slice g_p.a p.length g_p.c, .int .i32 r_]⟩ w (fun v w' => ∃ (g901 : Gh), v = .slice g901.a r.length g901.c ∧ SH M (fpl [Ent.own 5 (tI .u8) p g_p]) w [Ent.own 5 (tI .u8) r g901] w') := ⟨Tryd.call44 _, unicode_utf8_AppendRune_w M   p r_ r hm w hS⟩

def token_hex (b_ : Int) : Int :=
  cond (token_digit b_) (
  w64 (b_ - 48)) (
  lt (token_within (ibit .or .i64 b_ 32) 97 102) fun y7 =>
  lt (cond (cond (b_ != (-1)) y7 false) (decide (64 < b_)) false) fun x8 =>
  cond (cond x8 (decide (b_ < 128)) false) (
  lt (w64 ((w64 ((ibit .or .i64 b_ 32) - 97)) + 10)) fun x11 =>
  x11) (
  (-1)))
theorem token_hex_w  (M : Av) (b_ : Int) (r : Int) (hm : token_hex b_ = r) (w : World) (hS : S0 M [] w) : Calls Tryd.prog 45 ⟨[.int .i64 b_]⟩ w (fun e w' => ∃ v, e = .returned v ∧ v = .int .i64 r ∧ SH M (fpl []) w [] w') := by
  rw [token_hex] at hm
  have hS0 : SH M (fpl []) w [] w := hS
  generalize hX : fpl [] = X at hS0 ⊢
  clear hS hX
  have hS := hS0
  clear hS0
  refine calls_entryP Tryd.func45 rfl Tryd.ntmps45 rfl fun _ H => ?_
  refine s_reg [] [0] [(0, [], .int .i64 b_)] [] H (by kernel_rfl) trivial fun _ wd1 H2 hb => ?_
  clear H
  replace hS := hS.below hb
  clear hb
  refine w_seq ?_
  refine w_block ?_
  refine s_reg [(.bool (token_digit b_))] [0, 3] [(0, [], .int .i64 b_), (3, [], .bool (token_digit b_))] [fun wz => RetB Tryd.prog 19 ⟨[.int .i64 b_]⟩ (.bool (token_digit b_)) wz] H2 (by kernel_rfl) ⟨((token_digit_ok _).b), trivial⟩ fun _ wd3 H4 hb => ?_
  clear H2
  replace hS := hS.below hb
  clear hb
  refine w_if H4 rfl (fun hc => ?_) (fun hc => ?_)
  · replace hm := bT hc hm
    refine s_reg [] [2] [(2, [], .int .i64 (w64 (b_ - 48)))] [] H4 (by kernel_rfl) trivial fun _ wd5 H6 hb => ?_
    clear H4
    replace hS := hS.below hb
    clear hb
    refine w_ret ?_
    subst hm
    exact retR1 H6 rfl rfl ⟨_, rfl, rfl, (hS.sel [] rfl)⟩
  · replace hm := bF hc hm
    obtain ⟨y7, hy7, hm⟩ := letE hm
    obtain ⟨x8, hx8, hm⟩ := letE hm
    refine s_reg [(.bool y7)] [0, 8] [(0, [], .int .i64 b_), (8, [], .bool (cond x8 (decide (b_ < 128)) false))] [fun wz => ((b_ != (-1)) = true ∧ True → RetB Tryd.prog 35 ⟨[.int .i64 (ibit .or .i64 b_ 32), .int .i64 97, .int .i64 102]⟩ (.bool y7) wz)] H4 (by subst hy7 hx8; kernel_rfl) ⟨fun hg => (by rw [hy7]; exact (token_within_ok _ _ _).b), trivial⟩ fun _ wd9 H10 hb => ?_
    clear H4
    replace hS := hS.below hb
    clear hb
    refine w_if H10 rfl (fun hc => ?_) (fun hc => ?_)
    · replace hm := bT hc hm
      obtain ⟨x11, hx11, hm⟩ := letE hm
      refine s_reg [] [2] [(2, [], .int .i64 x11)] [] H10 (by subst hx11; kernel_rfl) trivial fun _ wd12 H13 hb => ?_
      clear H10
      replace hS := hS.below hb
      clear hb
      refine w_ret ?_
      subst hm
      exact retR1 H13 rfl rfl ⟨_, rfl, rfl, (hS.sel [] rfl)⟩
    · replace hm := bF hc hm
      refine w_skip ?_
      refine s_reg [] [2] [(2, [], .int .i64 (-1))] [] H10 (by kernel_rfl) trivial fun _ wd14 H15 hb => ?_
      clear H10
      replace hS := hS.below hb
      clear hb
      refine w_ret ?_
      subst hm
      exact retR1 H15 rfl rfl ⟨_, rfl, rfl, (hS.sel [] rfl)⟩
theorem token_hex_ok  (b_ : Int) : Ret Tryd.prog 45 ⟨[.int .i64 b_]⟩ (.int .i64 (token_hex b_)) := retP_of (Tryd.call45 _) (fun w h => token_hex_w F0   b_ _ rfl w h)

def token_space (b_ : Int) : Bool :=
  lt (cond (cond (b_ == 32) true (b_ == 9)) true (b_ == 10)) fun x3 =>
  x3
theorem token_space_w  (M : Av) (b_ : Int) (r : Bool) (hm : token_space b_ = r) (w : World) (hS : S0 M [] w) : Calls Tryd.prog 46 ⟨[.int .i64 b_]⟩ w (fun e w' => ∃ v, e = .returned v ∧ v = .bool r ∧ SH M (fpl []) w [] w') := by
  rw [token_space] at hm
  have hS0 : SH M (fpl []) w [] w := hS
  generalize hX : fpl [] = X at hS0 ⊢
  clear hS hX
  have hS := hS0
  clear hS0
  refine calls_entryP Tryd.func46 rfl Tryd.ntmps46 rfl fun _ H => ?_
  refine s_reg [] [0] [(0, [], .int .i64 b_)] [] H (by kernel_rfl) trivial fun _ wd1 H2 hb => ?_
  clear H
  replace hS := hS.below hb
  clear hb
  obtain ⟨x3, hx3, hm⟩ := letE hm
  refine s_reg [] [2] [(2, [], .bool x3)] [] H2 (by subst hx3; kernel_rfl) trivial fun _ wd4 H5 hb => ?_
  clear H2
  replace hS := hS.below hb
  clear hb
  refine w_ret ?_
  subst hm
  exact retR1 H5 rfl rfl ⟨_, rfl, rfl, (hS.sel [] rfl)⟩
theorem token_space_ok  (b_ : Int) : Ret Tryd.prog 46 ⟨[.int .i64 b_]⟩ (.bool (token_space b_)) := retP_of (Tryd.call46 _) (fun w h => token_space_w F0   b_ _ rfl w h)

def token_scanner_escaped_L1 (m : Nat) (c_s : Str) : Nat → Int → Int → Int → Option (Int × Int)
  | 0, _, _, _ => none
  | kk + 1, v45, v46, v47 =>
    cond (decide (v46 < 6)) (
    Option.bind (token_scanner_peek c_s v47 0) fun y50 =>
    cond (decide ((token_hex y50) < 0)) (
    some (v45, v47)) (
    lt (ibit .or .i64 (w64 (v45 * 2 ^ 4)) (token_hex y50)) fun x56 =>
    token_scanner_escaped_L1 m c_s kk x56 (w64 (v46 + 1)) (w64 (v47 + 1)))) (
    some (v45, v47))
def token_scanner_escaped (m : Nat) (c_s : Str) (c_at_ : Int) (b_ : List Int) : Option ((List Int) × Int) :=
  Option.bind (token_scanner_peek c_s (w64 (c_at_ + 1)) 0) fun y7 =>
  cond (y7 == (-1)) (
  Option.bind (unicode_utf8_AppendRune b_ 65533) fun y14 =>
  some (y14, w64 (c_at_ + 1))) (
  cond (decide ((token_hex y7) < 0)) (
  chk (ln b_ + ln ([wu8 y7] : List Int) ≤ 1099511627776) <|
  lt (b_ ++ ([wu8 y7] : List Int)) fun q34 =>
  some (q34, w64 ((w64 (c_at_ + 1)) + 1))) (
  Option.bind (
  token_scanner_escaped_L1 m c_s m 0 0 (w64 (c_at_ + 1))) fun (z42 : Int × Int) =>
  Option.bind (
  Option.bind (token_scanner_peek c_s z42.2 0) fun y64 =>
  cond (token_space y64) (
  some (w64 (z42.2 + 1))) (
  some z42.2)) fun (z63 : Int) =>
  Option.bind (
  cond (z42.1 == 0) (
  some 65533) (
  some z42.1)) fun (z71 : Int) =>
  Option.bind (unicode_utf8_AppendRune b_ (w32 z71)) fun y78 =>
  some (y78, z63)))
theorem token_scanner_escaped_w {b_c : Nat} {g_b_ : Gh} (M : Av) (m : Nat) (c_s : Str) (c_at_ : Int) (b_ : List Int) (r : (List Int) × Int) (hm : token_scanner_escaped m c_s c_at_ b_ = some r) (w : World) (hS : S0 M [Ent.blk b_c [.string ⟨⟨c_s⟩⟩, .int .i64 c_at_], Ent.own 5 (tI .u8) b_ g_b_] w) : Calls Tryd.prog 30 ⟨[.pointer (some ⟨b_c, 0, none⟩), .slice g_b_.a b_.length g_b_.c]⟩ w (fun e w' => ∃ v, e = .returned v ∧ ∃ (g901 : Gh), v = .slice g901.a r.1.length g901.c ∧ SH M (fpl [Ent.blk b_c [.string ⟨⟨c_s⟩⟩, .int .i64 c_at_], Ent.own 5 (tI .u8) b_ g_b_]) w [Ent.own 5 (tI .u8) r.1 g901, Ent.blk b_c [.string ⟨⟨c_s⟩⟩, .int .i64 r.2]] w') := by
  rw [token_scanner_escaped] at hm
  have hS0 : SH M (fpl [Ent.blk b_c [.string ⟨⟨c_s⟩⟩, .int .i64 c_at_], Ent.own 5 (tI .u8) b_ g_b_]) w [Ent.blk b_c [.string ⟨⟨c_s⟩⟩, .int .i64 c_at_], Ent.own 5 (tI .u8) b_ g_b_] w := hS
  generalize hX : fpl [Ent.blk b_c [.string ⟨⟨c_s⟩⟩, .int .i64 c_at_], Ent.own 5 (tI .u8) b_ g_b_] = X at hS0 ⊢
  clear hS hX
  have hS := hS0
  clear hS0
  refine calls_entryP Tryd.func30 rfl Tryd.ntmps30 rfl fun _ H => ?_
  refine s_reg [] [0, 1] [(0, [], .pointer (some ⟨b_c, 0, none⟩)), (1, [], .slice g_b_.a b_.length g_b_.c)] [] H (by kernel_rfl) trivial fun _ wd1 H2 hb => ?_
  clear H
  replace hS := hS.below hb
  clear hb
  refine w_seq ?_
  refine wl_start ?_
  refine wl_batch 0 7 [(.int .i64 c_at_)] [0, 1, 12, 14] [(0, [], .pointer (some ⟨b_c, 0, none⟩)), (1, [], .slice g_b_.a b_.length g_b_.c), (12, [], .int .i64 (w64 (c_at_ + 1))), (14, [], .pointer (some ⟨b_c, 1, none⟩))] [fun wz => V.at1 ⟨b_c, 1, none⟩ (.int .i64 c_at_) wz] H2 (by decide) (by kernel_rfl) ⟨((hS.bk 0 rfl).at1 rfl), trivial⟩ fun _ wd3 H4 hb => ?_
  clear H2
  replace hS := hS.below hb
  clear hb
  have hd : S0 (AvL M [Ent.own 5 (tI .u8) b_ g_b_]) [Ent.blk b_c [.string ⟨⟨c_s⟩⟩, .int .i64 c_at_]] _ := hS.hand [0] [1] rfl rfl
  refine m_stp0 [0, 1] [(0, [], .pointer (some ⟨b_c, 0, none⟩)), (1, [], .slice g_b_.a b_.length g_b_.c)] H4 rfl rfl rfl (o_store [.string ⟨⟨c_s⟩⟩, .int .i64 (w64 (c_at_ + 1))] H4 hd rfl rfl (by kernel_rfl) rfl rfl rfl) rfl fun _ wd5 H6 hq => ?_
  clear H4 hd
  obtain ⟨_, hq⟩ := hq
  replace hS : SH M X w [Ent.blk b_c [.string ⟨⟨c_s⟩⟩, .int .i64 (w64 (c_at_ + 1))], Ent.own 5 (tI .u8) b_ g_b_] _ := hS.join [0] [1] rfl rfl hq
  clear hq
  refine wl_end rfl ?_
  obtain ⟨y7, hy7, hm⟩ := bindE hm
  refine s_reg [(.int .i64 y7)] [0, 1, 5] [(0, [], .pointer (some ⟨b_c, 0, none⟩)), (1, [], .slice g_b_.a b_.length g_b_.c), (5, [], .int .i64 y7)] [fun wz => RetB Tryd.prog 18 ⟨[.pointer (some ⟨b_c, 0, none⟩), .int .i64 0]⟩ (.int .i64 y7) wz] H6 (by kernel_rfl) ⟨(token_scanner_peek_ok (b_c := b_c) _ _ _ _ hy7 _ (s0ro s0nil (hS.bk 0 rfl))), trivial⟩ fun _ wd8 H9 hb => ?_
  clear H6
  replace hS := hS.below hb
  clear hb
  refine w_seq ?_
  refine s_reg [] [0, 1, 5, 18] [(0, [], .pointer (some ⟨b_c, 0, none⟩)), (1, [], .slice g_b_.a b_.length g_b_.c), (5, [], .int .i64 y7), (18, [], .bool (y7 == (-1)))] [] H9 (by kernel_rfl) trivial fun _ wd10 H11 hb => ?_
  clear H9
  replace hS := hS.below hb
  clear hb
  refine w_if H11 rfl (fun hc => ?_) (fun hc => ?_)
  · replace hm := bT hc hm
    refine w_seq ?_
    refine wl_start ?_
    refine wl_batch 0 1 [] [19] [(19, [], .slice g_b_.a b_.length g_b_.c)] [] H11 (by decide) (by kernel_rfl) trivial fun _ wd12 H13 hb => ?_
    clear H11
    replace hS := hS.below hb
    clear hb
    obtain ⟨y14, hy14, hm⟩ := bindE hm
    have hd : S0 (AvL M [Ent.blk b_c [.string ⟨⟨c_s⟩⟩, .int .i64 (w64 (c_at_ + 1))]]) [Ent.own 5 (tI .u8) b_ g_b_] _ := hS.hand [1] [0] rfl rfl
    refine m_stp [20] [] H13 rfl rfl rfl rfl (o_callx H13 rfl rfl (unicode_utf8_AppendRune_ok (g_p := g_b_) _ _ _ hy14 _ _ hd)) (fun _ => rfl) fun _ wd17 v H18 hq => ?_
    clear H13 hd
    obtain ⟨g15, rfl, hq⟩ := hq
    replace hS : SH M X w [Ent.own 5 (tI .u8) y14 g15, Ent.blk b_c [.string ⟨⟨c_s⟩⟩, .int .i64 (w64 (c_at_ + 1))]] _ := hS.join [1] [0] rfl rfl hq
    clear hq
    refine wl_batch 2 3 [] [4] [(4, [], .slice g15.a y14.length g15.c)] [] H18 (by decide) (by kernel_rfl) trivial fun _ wd19 H20 hb => ?_
    clear H18
    replace hS := hS.below hb
    clear hb
    refine wl_end rfl ?_
    refine w_ret ?_
    obtain rfl := someE hm
    exact retR1 H20 rfl rfl ⟨_, rfl, g15, rfl, (hS.sel [0, 1] rfl)⟩
  · replace hm := bF hc hm
    refine w_skip ?_
    refine w_seq ?_
    refine s_reg [(.int .i64 (token_hex y7))] [0, 1, 5, 23] [(0, [], .pointer (some ⟨b_c, 0, none⟩)), (1, [], .slice g_b_.a b_.length g_b_.c), (5, [], .int .i64 y7), (23, [], .bool (decide ((token_hex y7) < 0)))] [fun wz => RetB Tryd.prog 45 ⟨[.int .i64 y7]⟩ (.int .i64 (token_hex y7)) wz] H11 (by kernel_rfl) ⟨((token_hex_ok _).b), trivial⟩ fun _ wd21 H22 hb => ?_
    clear H11
    replace hS := hS.below hb
    clear hb
    refine w_if H22 rfl (fun hc => ?_) (fun hc => ?_)
    · replace hm := bT hc hm
      refine w_seq ?_
      refine wl_start ?_
      refine wl_batch 0 7 [(.int .i64 (w64 (c_at_ + 1)))] [1, 5, 28, 30] [(1, [], .slice g_b_.a b_.length g_b_.c), (5, [], .int .i64 y7), (28, [], .int .i64 (w64 ((w64 (c_at_ + 1)) + 1))), (30, [], .pointer (some ⟨b_c, 1, none⟩))] [fun wz => V.at1 ⟨b_c, 1, none⟩ (.int .i64 (w64 (c_at_ + 1))) wz] H22 (by decide) (by kernel_rfl) ⟨((hS.bk 0 rfl).at1 rfl), trivial⟩ fun _ wd23 H24 hb => ?_
      clear H22
      replace hS := hS.below hb
      clear hb
      have hd : S0 (AvL M [Ent.own 5 (tI .u8) b_ g_b_]) [Ent.blk b_c [.string ⟨⟨c_s⟩⟩, .int .i64 (w64 (c_at_ + 1))]] _ := hS.hand [0] [1] rfl rfl
      refine m_stp0 [1, 5] [(1, [], .slice g_b_.a b_.length g_b_.c), (5, [], .int .i64 y7)] H24 rfl rfl rfl (o_store [.string ⟨⟨c_s⟩⟩, .int .i64 (w64 ((w64 (c_at_ + 1)) + 1))] H24 hd rfl rfl (by kernel_rfl) rfl rfl rfl) rfl fun _ wd25 H26 hq => ?_
      clear H24 hd
      obtain ⟨_, hq⟩ := hq
      replace hS : SH M X w [Ent.blk b_c [.string ⟨⟨c_s⟩⟩, .int .i64 (w64 ((w64 (c_at_ + 1)) + 1))], Ent.own 5 (tI .u8) b_ g_b_] _ := hS.join [0] [1] rfl rfl hq
      clear hq
      refine wl_end rfl ?_
      refine w_seq ?_
      refine wl_start ?_
      refine wl_batch 0 3 [] [31, 33] [(31, [], .slice g_b_.a b_.length g_b_.c), (33, [], .int .u8 (wu8 y7))] [] H26 (by decide) (by kernel_rfl) trivial fun _ wd27 H28 hb => ?_
      clear H26
      replace hS := hS.below hb
      clear hb
      have hd : S0 (AvL M [Ent.blk b_c [.string ⟨⟨c_s⟩⟩, .int .i64 (w64 ((w64 (c_at_ + 1)) + 1))], Ent.own 5 (tI .u8) b_ g_b_]) [] _ := hS.hand [] [0, 1] rfl rfl
      refine m_stp [34, 31] [(31, [], .slice g_b_.a b_.length g_b_.c)] H28 rfl rfl rfl rfl (o_lit (T := (tI .u8)) (E := 5) (zv := .int .u8 0) [.int .u8 (wu8 y7)] ([wu8 y7] : List Int) [gL []] _ H28 hd rfl (by kernel_rfl) (by kernel_rfl) (by kernel_rfl) (by kernel_rfl) (by kernel_rfl) (by kernel_rfl) (by kernel_rfl) rfl (InnL.cons trivial InnL.nil)) (fun _ => rfl) fun _ wd31 v H32 hq => ?_
      clear H28 hd
      obtain ⟨g29, rfl, hq⟩ := hq
      replace hS : SH M X w [Ent.own 5 (tI .u8) ([wu8 y7] : List Int) g29, Ent.blk b_c [.string ⟨⟨c_s⟩⟩, .int .i64 (w64 ((w64 (c_at_ + 1)) + 1))], Ent.own 5 (tI .u8) b_ g_b_] _ := hS.join [] [0, 1] rfl rfl hq
      clear hq
      obtain ⟨ho33, hm⟩ := chkE hm
      obtain ⟨q34, hq34, hm⟩ := letE hm
      have hd : S0 (AvL M [Ent.blk b_c [.string ⟨⟨c_s⟩⟩, .int .i64 (w64 ((w64 (c_at_ + 1)) + 1))]]) [Ent.own 5 (tI .u8) b_ g_b_, Ent.own 5 (tI .u8) ([wu8 y7] : List Int) g29] _ := hS.hand [2, 0] [1] rfl rfl
      refine m_stp [35] [] H32 rfl rfl rfl rfl (o_app2 (T := (tI .u8)) (zv := .int .u8 0) (g1 := g_b_) (g2 := g29) (l1 := b_) (l2 := ([wu8 y7] : List Int)) q34 hq34.symm H32 hd rfl rfl rfl rfl rfl rfl rfl (by kernel_rfl) (by kernel_rfl) rfl rfl ho33) (fun _ => rfl) fun _ wd35 v H36 hq => ?_
      clear H32 hd
      obtain ⟨g37, rfl, hq⟩ := hq
      replace hS : SH M X w [Ent.own 5 (tI .u8) q34 g37, Ent.own 5 (tI .u8) ([wu8 y7] : List Int) g29, Ent.blk b_c [.string ⟨⟨c_s⟩⟩, .int .i64 (w64 ((w64 (c_at_ + 1)) + 1))]] _ := hS.join [2, 0] [1] rfl rfl hq
      clear hq
      refine wl_batch 5 6 [] [4] [(4, [], .slice g37.a q34.length g37.c)] [] H36 (by decide) (by kernel_rfl) trivial fun _ wd38 H39 hb => ?_
      clear H36
      replace hS := hS.below hb
      clear hb
      refine wl_end rfl ?_
      replace hS : SH M X w [Ent.own 5 (tI .u8) q34 g37, Ent.blk b_c [.string ⟨⟨c_s⟩⟩, .int .i64 (w64 ((w64 (c_at_ + 1)) + 1))]] _ := hS.sel [0, 2] rfl
      refine w_ret ?_
      obtain rfl := someE hm
      exact retR1 H39 rfl rfl ⟨_, rfl, g37, rfl, (hS.sel [0, 1] rfl)⟩
    · replace hm := bF hc hm
      refine w_skip ?_
      refine s_reg [] [0, 1, 6] [(0, [], .pointer (some ⟨b_c, 0, none⟩)), (1, [], .slice g_b_.a b_.length g_b_.c), (6, [], .int .i64 0)] [] H22 (by kernel_rfl) trivial fun _ wd40 H41 hb => ?_
      clear H22
      replace hS := hS.below hb
      clear hb
      obtain ⟨z42, hz, hm⟩ := bindE hm
      refine w_cut (fun a' w' => Fr 72 [(0, [], .pointer (some ⟨b_c, 0, none⟩)), (1, [], .slice g_b_.a b_.length g_b_.c), (6, [], .int .i64 z42.1)] a' ∧ SH M X w [Ent.blk b_c [.string ⟨⟨c_s⟩⟩, .int .i64 z42.2], Ent.own 5 (tI .u8) b_ g_b_] w') ?_ ?_
      · replace hm := hz
        refine s_reg [] [0, 1, 6, 36] [(0, [], .pointer (some ⟨b_c, 0, none⟩)), (1, [], .slice g_b_.a b_.length g_b_.c), (6, [], .int .i64 0), (36, [], .int .i64 0)] [] H41 (by kernel_rfl) trivial fun _ wd43 H44 hb => ?_
        clear H41
        replace hS := hS.below hb
        clear hb
        refine w_block ?_
        refine w_loop (fun kk a' w' => ∃ (v45 : Int) (v46 : Int) (v47 : Int), token_scanner_escaped_L1 m c_s kk v45 v46 v47 = some _ ∧ Fr 72 [(0, [], .pointer (some ⟨b_c, 0, none⟩)), (1, [], .slice g_b_.a b_.length g_b_.c), (6, [], .int .i64 v45), (36, [], .int .i64 v46)] a' ∧ SH M X w [Ent.blk b_c [.string ⟨⟨c_s⟩⟩, .int .i64 v47], Ent.own 5 (tI .u8) b_ g_b_] w') ⟨_, 0, 0, w64 (c_at_ + 1), hm, Fr.keep (ks := [0, 1, 6, 36]) H44 (by kernel_rfl), hS⟩ ?_
        clear hm H44 hS
        rintro kk _ wd62 ⟨v45, v46, v47, hm, H, hS⟩
        cases kk with
        | zero => exact noneE hm
        | succ kk =>
          rw [token_scanner_escaped_L1] at hm
          refine s_reg [] [0, 1, 6, 36, 37] [(0, [], .pointer (some ⟨b_c, 0, none⟩)), (1, [], .slice g_b_.a b_.length g_b_.c), (6, [], .int .i64 v45), (36, [], .int .i64 v46), (37, [], .bool (decide (v46 < 6)))] [] H (by kernel_rfl) trivial fun _ wd48 H49 hb => ?_
          clear H
          replace hS := hS.below hb
          clear hb
          refine w_seq ?_
          refine w_if H49 rfl (fun hc => ?_) (fun hc => ?_)
          · replace hm := bT hc hm
            refine w_skip ?_
            refine w_seq ?_
            refine w_block ?_
            obtain ⟨y50, hy50, hm⟩ := bindE hm
            refine s_reg [(.int .i64 y50), (.int .i64 (token_hex y50))] [0, 1, 6, 7, 36] [(0, [], .pointer (some ⟨b_c, 0, none⟩)), (1, [], .slice g_b_.a b_.length g_b_.c), (6, [], .int .i64 v45), (7, [], .int .i64 (token_hex y50)), (36, [], .int .i64 v46)] [fun wz => RetB Tryd.prog 18 ⟨[.pointer (some ⟨b_c, 0, none⟩), .int .i64 0]⟩ (.int .i64 y50) wz, fun wz => RetB Tryd.prog 45 ⟨[.int .i64 y50]⟩ (.int .i64 (token_hex y50)) wz] H49 (by kernel_rfl) ⟨(token_scanner_peek_ok (b_c := b_c) _ _ _ _ hy50 _ (s0ro s0nil (hS.bk 0 rfl))), ((token_hex_ok _).b), trivial⟩ fun _ wd51 H52 hb => ?_
            clear H49
            replace hS := hS.below hb
            clear hb
            refine w_seq ?_
            refine s_reg [] [0, 1, 6, 7, 36, 42] [(0, [], .pointer (some ⟨b_c, 0, none⟩)), (1, [], .slice g_b_.a b_.length g_b_.c), (6, [], .int .i64 v45), (7, [], .int .i64 (token_hex y50)), (36, [], .int .i64 v46), (42, [], .bool (decide ((token_hex y50) < 0)))] [] H52 (by kernel_rfl) trivial fun _ wd53 H54 hb => ?_
            clear H52
            replace hS := hS.below hb
            clear hb
            refine w_if H54 rfl (fun hc => ?_) (fun hc => ?_)
            · replace hm := bT hc hm
              refine w_exit rfl ?_
              obtain rfl := someE hm
              exact ⟨Fr.keep (ks := [0, 1, 6]) H54 (by kernel_rfl), hS⟩
            · replace hm := bF hc hm
              refine w_skip ?_
              obtain ⟨x56, hx56, hm⟩ := letE hm
              refine w_drawS (base := [(0, [], .pointer (some ⟨b_c, 0, none⟩)), (1, [], .slice g_b_.a b_.length g_b_.c), (7, [], .int .i64 (token_hex y50)), (36, [], .int .i64 v46)]) (L := [Ent.blk b_c [.string ⟨⟨c_s⟩⟩, .int .i64 v47], Ent.own 5 (tI .u8) b_ g_b_]) 14 2 (fun yg55 => [.pointer (some ⟨b_c, 0, none⟩), .int .i64 v45, .int .i64 (w64 (v45 * 2 ^ 4)), .int .i64 (token_hex y50), .int .i64 x56, .pointer (some ⟨b_c, 0, none⟩), .pointer (some ⟨b_c, 0, none⟩), .pointer (some ⟨b_c, 1, none⟩), .int .i64 v47, .int .i64 (w64 (v47 + 1)), .int .i64 x56, .pointer (some ⟨b_c, 0, none⟩), .pointer (some ⟨b_c, 1, none⟩), undef]) (fun yg55 => [[], [], [], [], [], [], [], [], [], [], [], [], [], [Ent.blk b_c [.string ⟨⟨c_s⟩⟩, .int .i64 (w64 (v47 + 1))]]]) [[14], [], [], [], [], [14], [14], [14], [14], [], [], [14], [14], [14]] [[], [], [], [], [], [], [], [], [], [], [], [], [], [14]] [[0], [1], [1, 2], [3], [1, 2, 3, 4], [5], [5, 6], [5, 6, 7], [5, 6, 7, 8], [5, 6, 7, 8, 9], [1, 2, 3, 4, 10], [0, 11], [0, 11, 12], [0, 5, 6, 7, 8, 9, 11, 12, 13]] [(6, 10, .int .i64 v45)] (Fr.keep (ks := [0, 1, 7, 36]) H54 (by kernel_rfl)) (fun k e h => by rcases k with _ | k <;> first | (obtain rfl := Option.some.inj h; exact Fr.slot H54 (by kernel_rfl)) | cases h) (by kernel_rfl) hS (by kernel_rfl) rfl rfl (by kernel_rfl) (by kernel_rfl) (by kernel_rfl) (gd_none (by kernel_rfl) _ _) ?hloc_yg55 ?hstep_yg55 fun _ wd57 yg55 H58 hv hS => ?hK_yg55
              case hloc_yg55 => exact ⟨(fun _ _ _ _ => ⟨rfl, rfl⟩), (fun _ _ _ _ => ⟨rfl, rfl⟩), (fun _ _ _ _ => ⟨rfl, rfl⟩), (fun _ _ _ _ => ⟨rfl, rfl⟩), (fun _ _ _ _ => ⟨rfl, rfl⟩), (fun _ _ _ _ => ⟨rfl, rfl⟩), (fun _ _ _ _ => ⟨rfl, rfl⟩), (fun _ _ _ _ => ⟨rfl, rfl⟩), (fun _ _ _ _ => ⟨rfl, rfl⟩), (fun _ _ _ _ => ⟨rfl, rfl⟩), (fun _ _ _ _ => ⟨rfl, rfl⟩), (fun _ _ _ _ => ⟨rfl, rfl⟩), (fun _ _ _ _ => ⟨rfl, rfl⟩), (fun _ _ _ _ => ⟨rfl, rfl⟩), trivial⟩
              case hstep_yg55 =>
                refine ⟨?_, ?_, ?_, ?_, ?_, ?_, ?_, ?_, ?_, ?_, ?_, ?_, ?_, ?_, trivial⟩
                · intro o ho a w yg55 M Hb hv hO hS0
                  obtain rfl := Option.some.inj ho
                  have H : Fr 72 ([] ++ [(0, [], .pointer (some ⟨b_c, 0, none⟩)), (1, [], .slice g_b_.a b_.length g_b_.c), (7, [], .int .i64 (token_hex y50)), (36, [], .int .i64 v46)]) _ := Hb
                  obtain ⟨X, hX⟩ : ∃ X, X = fpl [Ent.blk b_c [.string ⟨⟨c_s⟩⟩, .int .i64 v47]] := ⟨_, rfl⟩
                  have hS : SH M X w [Ent.blk b_c [.string ⟨⟨c_s⟩⟩, .int .i64 v47]] w := by rw [hX]; exact hS0
                  refine Stp.mono (o_evs [] (.pointer (some ⟨b_c, 0, none⟩)) none [] H rfl (by kernel_rfl) (fun q e => by cases e)) ?_
                  rintro v w2 ⟨rfl, hq⟩
                  replace hS : SH M X w [Ent.blk b_c [.string ⟨⟨c_s⟩⟩, .int .i64 v47]] _ := hS.below hq.below
                  rw [hX] at hS
                  exact ⟨gL [], fun _ _ => rfl, hS.sel [0] rfl⟩
                · intro o ho a w yg55 M Hb hv hO hS0
                  obtain rfl := Option.some.inj ho
                  have H : Fr 72 ([(6, [], .int .i64 v45)] ++ [(0, [], .pointer (some ⟨b_c, 0, none⟩)), (1, [], .slice g_b_.a b_.length g_b_.c), (7, [], .int .i64 (token_hex y50)), (36, [], .int .i64 v46)]) _ := (Hb).add (hO 0 _ rfl (by kernel_rfl))
                  obtain ⟨X, hX⟩ : ∃ X, X = fpl [] := ⟨_, rfl⟩
                  have hS : SH M X w [] w := by rw [hX]; exact hS0
                  refine Stp.mono (o_evs [] (.int .i64 v45) none [] H rfl (by kernel_rfl) (fun q e => by cases e)) ?_
                  rintro v w2 ⟨rfl, hq⟩
                  replace hS : SH M X w [] _ := hS.below hq.below
                  rw [hX] at hS
                  exact ⟨gL [], fun _ _ => rfl, hS.sel [] rfl⟩
                · intro o ho a w yg55 M Hb hv hO hS0
                  obtain rfl := Option.some.inj ho
                  have H : Fr 72 ([(44, [], .int .i64 v45)] ++ [(0, [], .pointer (some ⟨b_c, 0, none⟩)), (1, [], .slice g_b_.a b_.length g_b_.c), (7, [], .int .i64 (token_hex y50)), (36, [], .int .i64 v46)]) _ := (Hb).add (hv 1 (by decide) (by decide) 44 rfl)
                  obtain ⟨X, hX⟩ : ∃ X, X = fpl [] := ⟨_, rfl⟩
                  have hS : SH M X w [] w := by rw [hX]; exact hS0
                  refine Stp.mono (o_evs [] (.int .i64 (w64 (v45 * 2 ^ 4))) (some (fun _ => (0 : Int) ≤ 4)) [] H rfl (by kernel_rfl) (fun q e => by cases e; exact (by show (0 : Int) ≤ 4; decide))) ?_
                  rintro v w2 ⟨rfl, hq⟩
                  replace hS : SH M X w [] _ := hS.below hq.below
                  rw [hX] at hS
                  exact ⟨gL [], fun _ _ => rfl, hS.sel [] rfl⟩
                · intro o ho a w yg55 M Hb hv hO hS0
                  obtain rfl := Option.some.inj ho
                  have H : Fr 72 ([] ++ [(0, [], .pointer (some ⟨b_c, 0, none⟩)), (1, [], .slice g_b_.a b_.length g_b_.c), (7, [], .int .i64 (token_hex y50)), (36, [], .int .i64 v46)]) _ := Hb
                  obtain ⟨X, hX⟩ : ∃ X, X = fpl [] := ⟨_, rfl⟩
                  have hS : SH M X w [] w := by rw [hX]; exact hS0
                  refine Stp.mono (o_evs [] (.int .i64 (token_hex y50)) none [] H rfl (by kernel_rfl) (fun q e => by cases e)) ?_
                  rintro v w2 ⟨rfl, hq⟩
                  replace hS : SH M X w [] _ := hS.below hq.below
                  rw [hX] at hS
                  exact ⟨gL [], fun _ _ => rfl, hS.sel [] rfl⟩
                · intro o ho a w yg55 M Hb hv hO hS0
                  obtain rfl := Option.some.inj ho
                  have H : Fr 72 ([(46, [], .int .i64 (token_hex y50)), (45, [], .int .i64 (w64 (v45 * 2 ^ 4)))] ++ [(0, [], .pointer (some ⟨b_c, 0, none⟩)), (1, [], .slice g_b_.a b_.length g_b_.c), (7, [], .int .i64 (token_hex y50)), (36, [], .int .i64 v46)]) _ := ((Hb).add (hv 2 (by decide) (by decide) 45 rfl)).add (hv 3 (by decide) (by decide) 46 rfl)
                  obtain ⟨X, hX⟩ : ∃ X, X = fpl [] := ⟨_, rfl⟩
                  have hS : SH M X w [] w := by rw [hX]; exact hS0
                  refine Stp.mono (o_evs [] (.int .i64 x56) none [] H rfl (by subst hx56; kernel_rfl) (fun q e => by cases e)) ?_
                  rintro v w2 ⟨rfl, hq⟩
                  replace hS : SH M X w [] _ := hS.below hq.below
                  rw [hX] at hS
                  exact ⟨gL [], fun _ _ => rfl, hS.sel [] rfl⟩
                · intro o ho a w yg55 M Hb hv hO hS0
                  obtain rfl := Option.some.inj ho
                  have H : Fr 72 ([] ++ [(0, [], .pointer (some ⟨b_c, 0, none⟩)), (1, [], .slice g_b_.a b_.length g_b_.c), (7, [], .int .i64 (token_hex y50)), (36, [], .int .i64 v46)]) _ := Hb
                  obtain ⟨X, hX⟩ : ∃ X, X = fpl [Ent.blk b_c [.string ⟨⟨c_s⟩⟩, .int .i64 v47]] := ⟨_, rfl⟩
                  have hS : SH M X w [Ent.blk b_c [.string ⟨⟨c_s⟩⟩, .int .i64 v47]] w := by rw [hX]; exact hS0
                  refine Stp.mono (o_evs [] (.pointer (some ⟨b_c, 0, none⟩)) none [] H rfl (by kernel_rfl) (fun q e => by cases e)) ?_
                  rintro v w2 ⟨rfl, hq⟩
                  replace hS : SH M X w [Ent.blk b_c [.string ⟨⟨c_s⟩⟩, .int .i64 v47]] _ := hS.below hq.below
                  rw [hX] at hS
                  exact ⟨gL [], fun _ _ => rfl, hS.sel [0] rfl⟩
                · intro o ho a w yg55 M Hb hv hO hS0
                  obtain rfl := Option.some.inj ho
                  have H : Fr 72 ([(48, [], .pointer (some ⟨b_c, 0, none⟩))] ++ [(0, [], .pointer (some ⟨b_c, 0, none⟩)), (1, [], .slice g_b_.a b_.length g_b_.c), (7, [], .int .i64 (token_hex y50)), (36, [], .int .i64 v46)]) _ := (Hb).add (hv 5 (by decide) (by decide) 48 rfl)
                  obtain ⟨X, hX⟩ : ∃ X, X = fpl [Ent.blk b_c [.string ⟨⟨c_s⟩⟩, .int .i64 v47]] := ⟨_, rfl⟩
                  have hS : SH M X w [Ent.blk b_c [.string ⟨⟨c_s⟩⟩, .int .i64 v47]] w := by rw [hX]; exact hS0
                  refine Stp.mono (o_evs [] (.pointer (some ⟨b_c, 0, none⟩)) none [] H rfl (by kernel_rfl) (fun q e => by cases e)) ?_
                  rintro v w2 ⟨rfl, hq⟩
                  replace hS : SH M X w [Ent.blk b_c [.string ⟨⟨c_s⟩⟩, .int .i64 v47]] _ := hS.below hq.below
                  rw [hX] at hS
                  exact ⟨gL [], fun _ _ => rfl, hS.sel [0] rfl⟩
                · intro o ho a w yg55 M Hb hv hO hS0
                  obtain rfl := Option.some.inj ho
                  have H : Fr 72 ([(49, [], .pointer (some ⟨b_c, 0, none⟩))] ++ [(0, [], .pointer (some ⟨b_c, 0, none⟩)), (1, [], .slice g_b_.a b_.length g_b_.c), (7, [], .int .i64 (token_hex y50)), (36, [], .int .i64 v46)]) _ := (Hb).add (hv 6 (by decide) (by decide) 49 rfl)
                  obtain ⟨X, hX⟩ : ∃ X, X = fpl [Ent.blk b_c [.string ⟨⟨c_s⟩⟩, .int .i64 v47]] := ⟨_, rfl⟩
                  have hS : SH M X w [Ent.blk b_c [.string ⟨⟨c_s⟩⟩, .int .i64 v47]] w := by rw [hX]; exact hS0
                  refine Stp.mono (o_evs [] (.pointer (some ⟨b_c, 1, none⟩)) none [] H rfl (by kernel_rfl) (fun q e => by cases e)) ?_
                  rintro v w2 ⟨rfl, hq⟩
                  replace hS : SH M X w [Ent.blk b_c [.string ⟨⟨c_s⟩⟩, .int .i64 v47]] _ := hS.below hq.below
                  rw [hX] at hS
                  exact ⟨gL [], fun _ _ => rfl, hS.sel [0] rfl⟩
                · intro o ho a w yg55 M Hb hv hO hS0
                  obtain rfl := Option.some.inj ho
                  have H : Fr 72 ([(50, [], .pointer (some ⟨b_c, 1, none⟩))] ++ [(0, [], .pointer (some ⟨b_c, 0, none⟩)), (1, [], .slice g_b_.a b_.length g_b_.c), (7, [], .int .i64 (token_hex y50)), (36, [], .int .i64 v46)]) _ := (Hb).add (hv 7 (by decide) (by decide) 50 rfl)
                  obtain ⟨X, hX⟩ : ∃ X, X = fpl [Ent.blk b_c [.string ⟨⟨c_s⟩⟩, .int .i64 v47]] := ⟨_, rfl⟩
                  have hS : SH M X w [Ent.blk b_c [.string ⟨⟨c_s⟩⟩, .int .i64 v47]] w := by rw [hX]; exact hS0
                  refine Stp.mono (o_evs [(.int .i64 v47)] (.int .i64 v47) (some (fun wz => V.at1 ⟨b_c, 1, none⟩ (.int .i64 v47) wz)) [] H rfl (by kernel_rfl) (fun q e => by cases e; exact ((hS.bk 0 rfl).at1 rfl))) ?_
                  rintro v w2 ⟨rfl, hq⟩
                  replace hS : SH M X w [Ent.blk b_c [.string ⟨⟨c_s⟩⟩, .int .i64 v47]] _ := hS.below hq.below
                  rw [hX] at hS
                  exact ⟨gL [], fun _ _ => rfl, hS.sel [0] rfl⟩
                · intro o ho a w yg55 M Hb hv hO hS0
                  obtain rfl := Option.some.inj ho
                  have H : Fr 72 ([(51, [], .int .i64 v47)] ++ [(0, [], .pointer (some ⟨b_c, 0, none⟩)), (1, [], .slice g_b_.a b_.length g_b_.c), (7, [], .int .i64 (token_hex y50)), (36, [], .int .i64 v46)]) _ := (Hb).add (hv 8 (by decide) (by decide) 51 rfl)
                  obtain ⟨X, hX⟩ : ∃ X, X = fpl [] := ⟨_, rfl⟩
                  have hS : SH M X w [] w := by rw [hX]; exact hS0
                  refine Stp.mono (o_evs [] (.int .i64 (w64 (v47 + 1))) none [] H rfl (by kernel_rfl) (fun q e => by cases e)) ?_
                  rintro v w2 ⟨rfl, hq⟩
                  replace hS : SH M X w [] _ := hS.below hq.below
                  rw [hX] at hS
                  exact ⟨gL [], fun _ _ => rfl, hS.sel [] rfl⟩
                · intro o ho a w yg55 M Hb hv hO hS0
                  obtain rfl := Option.some.inj ho
                  have H : Fr 72 ([(47, [], .int .i64 x56)] ++ [(0, [], .pointer (some ⟨b_c, 0, none⟩)), (1, [], .slice g_b_.a b_.length g_b_.c), (7, [], .int .i64 (token_hex y50)), (36, [], .int .i64 v46)]) _ := (Hb).add (hv 4 (by decide) (by decide) 47 rfl)
                  obtain ⟨X, hX⟩ : ∃ X, X = fpl [] := ⟨_, rfl⟩
                  have hS : SH M X w [] w := by rw [hX]; exact hS0
                  refine Stp.mono (o_evs [] (.int .i64 x56) none [] H rfl (by kernel_rfl) (fun q e => by cases e)) ?_
                  rintro v w2 ⟨rfl, hq⟩
                  replace hS : SH M X w [] _ := hS.below hq.below
                  rw [hX] at hS
                  exact ⟨gL [], fun _ _ => rfl, hS.sel [] rfl⟩
                · intro o ho a w yg55 M Hb hv hO hS0
                  obtain rfl := Option.some.inj ho
                  have H : Fr 72 ([(43, [], .pointer (some ⟨b_c, 0, none⟩))] ++ [(0, [], .pointer (some ⟨b_c, 0, none⟩)), (1, [], .slice g_b_.a b_.length g_b_.c), (7, [], .int .i64 (token_hex y50)), (36, [], .int .i64 v46)]) _ := (Hb).add (hv 0 (by decide) (by decide) 43 rfl)
                  obtain ⟨X, hX⟩ : ∃ X, X = fpl [Ent.blk b_c [.string ⟨⟨c_s⟩⟩, .int .i64 v47]] := ⟨_, rfl⟩
                  have hS : SH M X w [Ent.blk b_c [.string ⟨⟨c_s⟩⟩, .int .i64 v47]] w := by rw [hX]; exact hS0
                  refine Stp.mono (o_evs [] (.pointer (some ⟨b_c, 0, none⟩)) none [] H rfl (by kernel_rfl) (fun q e => by cases e)) ?_
                  rintro v w2 ⟨rfl, hq⟩
                  replace hS : SH M X w [Ent.blk b_c [.string ⟨⟨c_s⟩⟩, .int .i64 v47]] _ := hS.below hq.below
                  rw [hX] at hS
                  exact ⟨gL [], fun _ _ => rfl, hS.sel [0] rfl⟩
                · intro o ho a w yg55 M Hb hv hO hS0
                  obtain rfl := Option.some.inj ho
                  have H : Fr 72 ([(53, [], .pointer (some ⟨b_c, 0, none⟩))] ++ [(0, [], .pointer (some ⟨b_c, 0, none⟩)), (1, [], .slice g_b_.a b_.length g_b_.c), (7, [], .int .i64 (token_hex y50)), (36, [], .int .i64 v46)]) _ := (Hb).add (hv 11 (by decide) (by decide) 53 rfl)
                  obtain ⟨X, hX⟩ : ∃ X, X = fpl [Ent.blk b_c [.string ⟨⟨c_s⟩⟩, .int .i64 v47]] := ⟨_, rfl⟩
                  have hS : SH M X w [Ent.blk b_c [.string ⟨⟨c_s⟩⟩, .int .i64 v47]] w := by rw [hX]; exact hS0
                  refine Stp.mono (o_evs [] (.pointer (some ⟨b_c, 1, none⟩)) none [] H rfl (by kernel_rfl) (fun q e => by cases e)) ?_
                  rintro v w2 ⟨rfl, hq⟩
                  replace hS : SH M X w [Ent.blk b_c [.string ⟨⟨c_s⟩⟩, .int .i64 v47]] _ := hS.below hq.below
                  rw [hX] at hS
                  exact ⟨gL [], fun _ _ => rfl, hS.sel [0] rfl⟩
                · intro o ho a w yg55 M Hb hv hO hS0
                  obtain rfl := Option.some.inj ho
                  have H : Fr 72 ([(54, [], .pointer (some ⟨b_c, 1, none⟩)), (52, [], .int .i64 (w64 (v47 + 1)))] ++ [(0, [], .pointer (some ⟨b_c, 0, none⟩)), (1, [], .slice g_b_.a b_.length g_b_.c), (7, [], .int .i64 (token_hex y50)), (36, [], .int .i64 v46)]) _ := ((Hb).add (hv 9 (by decide) (by decide) 52 rfl)).add (hv 12 (by decide) (by decide) 54 rfl)
                  obtain ⟨X, hX⟩ : ∃ X, X = fpl [Ent.blk b_c [.string ⟨⟨c_s⟩⟩, .int .i64 v47]] := ⟨_, rfl⟩
                  have hS : SH M X w [Ent.blk b_c [.string ⟨⟨c_s⟩⟩, .int .i64 v47]] w := by rw [hX]; exact hS0
                  have hd : S0 (AvL M []) [Ent.blk b_c [.string ⟨⟨c_s⟩⟩, .int .i64 v47]] _ := hS.hand [0] [] rfl rfl
                  refine Stp.mono (o_store [.string ⟨⟨c_s⟩⟩, .int .i64 (w64 (v47 + 1))] H hd rfl rfl (by kernel_rfl) rfl rfl rfl) ?_
                  rintro v w2 hq
                  replace hS : SH M X w [Ent.blk b_c [.string ⟨⟨c_s⟩⟩, .int .i64 (w64 (v47 + 1))]] _ := hS.join [0] [] rfl rfl hq
                  clear hq
                  rw [hX] at hS
                  exact ⟨gL [], (fun _ h => by cases h), hS.sel [0] rfl⟩
              have H59 : Fr 72 [(6, [], .int .i64 x56), (0, [], .pointer (some ⟨b_c, 0, none⟩)), (1, [], .slice g_b_.a b_.length g_b_.c), (36, [], .int .i64 v46)] _ := (Fr.add (Fr.keep (ks := [0, 1, 36]) H58 (by kernel_rfl)) (hv 10 6 rfl))
              replace hS : SH M X w [Ent.blk b_c [.string ⟨⟨c_s⟩⟩, .int .i64 (w64 (v47 + 1))], Ent.own 5 (tI .u8) b_ g_b_] _ := hS
              clear hv H58
              refine w_reg [] [0, 1, 6, 36] [(0, [], .pointer (some ⟨b_c, 0, none⟩)), (1, [], .slice g_b_.a b_.length g_b_.c), (6, [], .int .i64 x56), (36, [], .int .i64 (w64 (v46 + 1)))] [] H59 (by kernel_rfl) trivial fun _ wd60 H61 hb => ?_
              clear H59
              replace hS := hS.below hb
              clear hb
              exact ⟨_, Nat.lt_succ_self _, x56, w64 (v46 + 1), w64 (v47 + 1), hm, Fr.keep (ks := [0, 1, 6, 36]) H61 (by kernel_rfl), hS⟩
          · replace hm := bF hc hm
            refine w_exit rfl ?_
            obtain rfl := someE hm
            exact ⟨Fr.keep (ks := [0, 1, 6]) H49 (by kernel_rfl), hS⟩
      · rintro _ wd87 ⟨H, hS⟩
        obtain ⟨z63, hz, hm⟩ := bindE hm
        refine w_cut (fun a' w' => Fr 72 [(1, [], .slice g_b_.a b_.length g_b_.c), (6, [], .int .i64 z42.1)] a' ∧ SH M X w [Ent.blk b_c [.string ⟨⟨c_s⟩⟩, .int .i64 z63], Ent.own 5 (tI .u8) b_ g_b_] w') ?_ ?_
        · replace hm := hz
          obtain ⟨y64, hy64, hm⟩ := bindE hm
          refine s_reg [(.int .i64 y64), (.bool (token_space y64))] [0, 1, 6, 58] [(0, [], .pointer (some ⟨b_c, 0, none⟩)), (1, [], .slice g_b_.a b_.length g_b_.c), (6, [], .int .i64 z42.1), (58, [], .bool (token_space y64))] [fun wz => RetB Tryd.prog 18 ⟨[.pointer (some ⟨b_c, 0, none⟩), .int .i64 0]⟩ (.int .i64 y64) wz, fun wz => RetB Tryd.prog 46 ⟨[.int .i64 y64]⟩ (.bool (token_space y64)) wz] H (by kernel_rfl) ⟨(token_scanner_peek_ok (b_c := b_c) _ _ _ _ hy64 _ (s0ro s0nil (hS.bk 0 rfl))), ((token_space_ok _).b), trivial⟩ fun _ wd65 H66 hb => ?_
          clear H
          replace hS := hS.below hb
          clear hb
          refine w_if H66 rfl (fun hc => ?_) (fun hc => ?_)
          · replace hm := bT hc hm
            refine wl_start ?_
            refine wl_batch 0 7 [(.int .i64 z42.2)] [1, 6, 63, 65] [(1, [], .slice g_b_.a b_.length g_b_.c), (6, [], .int .i64 z42.1), (63, [], .int .i64 (w64 (z42.2 + 1))), (65, [], .pointer (some ⟨b_c, 1, none⟩))] [fun wz => V.at1 ⟨b_c, 1, none⟩ (.int .i64 z42.2) wz] H66 (by decide) (by kernel_rfl) ⟨((hS.bk 0 rfl).at1 rfl), trivial⟩ fun _ wd67 H68 hb => ?_
            clear H66
            replace hS := hS.below hb
            clear hb
            have hd : S0 (AvL M [Ent.own 5 (tI .u8) b_ g_b_]) [Ent.blk b_c [.string ⟨⟨c_s⟩⟩, .int .i64 z42.2]] _ := hS.hand [0] [1] rfl rfl
            refine m_stp0 [1, 6] [(1, [], .slice g_b_.a b_.length g_b_.c), (6, [], .int .i64 z42.1)] H68 rfl rfl rfl (o_store [.string ⟨⟨c_s⟩⟩, .int .i64 (w64 (z42.2 + 1))] H68 hd rfl rfl (by kernel_rfl) rfl rfl rfl) rfl fun _ wd69 H70 hq => ?_
            clear H68 hd
            obtain ⟨_, hq⟩ := hq
            replace hS : SH M X w [Ent.blk b_c [.string ⟨⟨c_s⟩⟩, .int .i64 (w64 (z42.2 + 1))], Ent.own 5 (tI .u8) b_ g_b_] _ := hS.join [0] [1] rfl rfl hq
            clear hq
            refine wl_end rfl ?_
            obtain rfl := someE hm
            exact ⟨Fr.keep (ks := [1, 6]) H70 (by kernel_rfl), hS⟩
          · replace hm := bF hc hm
            refine w_skip ?_
            obtain rfl := someE hm
            exact ⟨Fr.keep (ks := [1, 6]) H66 (by kernel_rfl), hS⟩
        · rintro _ wd86 ⟨H, hS⟩
          obtain ⟨z71, hz, hm⟩ := bindE hm
          refine w_cut (fun a' w' => Fr 72 [(1, [], .slice g_b_.a b_.length g_b_.c), (6, [], .int .i64 z71)] a' ∧ SH M X w [Ent.blk b_c [.string ⟨⟨c_s⟩⟩, .int .i64 z63], Ent.own 5 (tI .u8) b_ g_b_] w') ?_ ?_
          · replace hm := hz
            refine s_reg [] [1, 6, 67] [(1, [], .slice g_b_.a b_.length g_b_.c), (6, [], .int .i64 z42.1), (67, [], .bool (z42.1 == 0))] [] H (by kernel_rfl) trivial fun _ wd72 H73 hb => ?_
            clear H
            replace hS := hS.below hb
            clear hb
            refine w_if H73 rfl (fun hc => ?_) (fun hc => ?_)
            · replace hm := bT hc hm
              refine w_reg [] [1, 6] [(1, [], .slice g_b_.a b_.length g_b_.c), (6, [], .int .i64 65533)] [] H73 (by kernel_rfl) trivial fun _ wd74 H75 hb => ?_
              clear H73
              replace hS := hS.below hb
              clear hb
              obtain rfl := someE hm
              exact ⟨Fr.keep (ks := [1, 6]) H75 (by kernel_rfl), hS⟩
            · replace hm := bF hc hm
              refine w_skip ?_
              obtain rfl := someE hm
              exact ⟨Fr.keep (ks := [1, 6]) H73 (by kernel_rfl), hS⟩
          · rintro _ wd85 ⟨H, hS⟩
            refine w_seq ?_
            refine wl_start ?_
            refine wl_batch 0 3 [] [68, 70] [(68, [], .slice g_b_.a b_.length g_b_.c), (70, [], .int .i32 (w32 z71))] [] H (by decide) (by kernel_rfl) trivial fun _ wd76 H77 hb => ?_
            clear H
            replace hS := hS.below hb
            clear hb
            obtain ⟨y78, hy78, hm⟩ := bindE hm
            have hd : S0 (AvL M [Ent.blk b_c [.string ⟨⟨c_s⟩⟩, .int .i64 z63]]) [Ent.own 5 (tI .u8) b_ g_b_] _ := hS.hand [1] [0] rfl rfl
            refine m_stp [71] [] H77 rfl rfl rfl rfl (o_callx H77 rfl rfl (unicode_utf8_AppendRune_ok (g_p := g_b_) _ _ _ hy78 _ _ hd)) (fun _ => rfl) fun _ wd81 v H82 hq => ?_
            clear H77 hd
            obtain ⟨g79, rfl, hq⟩ := hq
            replace hS : SH M X w [Ent.own 5 (tI .u8) y78 g79, Ent.blk b_c [.string ⟨⟨c_s⟩⟩, .int .i64 z63]] _ := hS.join [1] [0] rfl rfl hq
            clear hq
            refine wl_batch 4 5 [] [4] [(4, [], .slice g79.a y78.length g79.c)] [] H82 (by decide) (by kernel_rfl) trivial fun _ wd83 H84 hb => ?_
            clear H82
            replace hS := hS.below hb
            clear hb
            refine wl_end rfl ?_
            refine w_ret ?_
            obtain rfl := someE hm
            exact retR1 H84 rfl rfl ⟨_, rfl, g79, rfl, (hS.sel [0, 1] rfl)⟩
theorem token_scanner_escaped_ok {b_c : Nat} {g_b_ : Gh} (m : Nat) (c_s : Str) (c_at_ : Int) (b_ : List Int) (r : (List Int) × Int) (hm : token_scanner_escaped m c_s c_at_ b_ = some r) (M : Av) (w : World) (hS : S0 M [Ent.blk b_c [.string ⟨⟨c_s⟩⟩, .int .i64 c_at_], Ent.own 5 (tI .u8) b_ g_b_] w) : DoesX Tryd.prog 30 ⟨[.pointer (some ⟨b_c, 0, none⟩), .slice g_b_.a b_.length g_b_.c]⟩ w (fun v w' => ∃ (g901 : Gh), v = .slice g901.a r.1.length g901.c ∧ SH M (fpl [Ent.blk b_c [.string ⟨⟨c_s⟩⟩, .int .i64 c_at_], Ent.own 5 (tI .u8) b_ g_b_]) w [Ent.own 5 (tI .u8) r.1 g901, Ent.blk b_c [.string ⟨⟨c_s⟩⟩, .int .i64 r.2]] w') := ⟨Tryd.call30 _, token_scanner_escaped_w M m   c_s c_at_ b_ r hm w hS⟩

def token_scanner_word_L1 (m : Nat) (c_s : Str) : Nat → (List Int) → Int → Option (Str × Int)
  | 0, _, _ => none
  | kk + 1, v6, v8 =>
    Option.bind (token_scanner_peek c_s v8 0) fun y9 =>
    cond (token_letter y9) (
    chk (ln v6 + ln ([wu8 y9] : List Int) ≤ 1099511627776) <|
    lt (v6 ++ ([wu8 y9] : List Int)) fun q21 =>
    token_scanner_word_L1 m c_s kk q21 (w64 (v8 + 1))) (
    Option.bind (cond (y9 != (-1)) (token_scanner_escape c_s v8 0) (some default)) fun y31 =>
    cond (cond (y9 != (-1)) y31 false) (
    Option.bind (token_scanner_escaped m c_s v8 v6) fun y36 =>
    token_scanner_word_L1 m c_s kk y36.1 y36.2) (
    some (toB v6, v8)))
def token_scanner_word (m : Nat) (c_s : Str) (c_at_ : Int) : Option (Str × Int) :=
  token_scanner_word_L1 m c_s m ([] : List Int) c_at_
theorem token_scanner_word_w {b_c : Nat} (M : Av) (m : Nat) (c_s : Str) (c_at_ : Int) (r : Str × Int) (hm : token_scanner_word m c_s c_at_ = some r) (w : World) (hS : S0 M [Ent.blk b_c [.string ⟨⟨c_s⟩⟩, .int .i64 c_at_]] w) : Calls Tryd.prog 15 ⟨[.pointer (some ⟨b_c, 0, none⟩)]⟩ w (fun e w' => ∃ v, e = .returned v ∧ v = .string ⟨⟨r.1⟩⟩ ∧ SH M (fpl [Ent.blk b_c [.string ⟨⟨c_s⟩⟩, .int .i64 c_at_]]) w [Ent.blk b_c [.string ⟨⟨c_s⟩⟩, .int .i64 r.2]] w') := by
  rw [token_scanner_word] at hm
  have hS0 : SH M (fpl [Ent.blk b_c [.string ⟨⟨c_s⟩⟩, .int .i64 c_at_]]) w [Ent.blk b_c [.string ⟨⟨c_s⟩⟩, .int .i64 c_at_]] w := hS
  generalize hX : fpl [Ent.blk b_c [.string ⟨⟨c_s⟩⟩, .int .i64 c_at_]] = X at hS0 ⊢
  clear hS hX
  have hS := hS0
  clear hS0
  refine calls_entryP Tryd.func15 rfl Tryd.ntmps15 rfl fun _ H => ?_
  refine s_reg [] [0] [(0, [], .pointer (some ⟨b_c, 0, none⟩))] [] H (by kernel_rfl) trivial fun _ wd1 H2 hb => ?_
  clear H
  replace hS := hS.below hb
  clear hb
  refine s_reg [] [0, 3] [(0, [], .pointer (some ⟨b_c, 0, none⟩)), (3, [], .slice none 0 0)] [] H2 (by kernel_rfl) trivial fun _ wd3 H4 hb => ?_
  clear H2
  replace hS := hS.below hb
  clear hb
  refine w_block ?_
  replace hS : SH M X w [Ent.own 5 (tI .u8) ([] : List Int) (.nil), Ent.blk b_c [.string ⟨⟨c_s⟩⟩, .int .i64 c_at_]] _ := hS.addNil 5 (tI .u8)
  refine w_loop (fun kk a' w' => ∃ (v6 : List Int) (v8 : Int) (g7 : Gh), token_scanner_word_L1 m c_s kk v6 v8 = some _ ∧ Fr 34 [(0, [], .pointer (some ⟨b_c, 0, none⟩)), (3, [], .slice g7.a v6.length g7.c)] a' ∧ SH M X w [Ent.own 5 (tI .u8) v6 g7, Ent.blk b_c [.string ⟨⟨c_s⟩⟩, .int .i64 v8]] w') ⟨_, ([] : List Int), c_at_, Gh.nil, hm, Fr.keep (ks := [0, 3]) H4 (by kernel_rfl), hS⟩ ?_
  clear hm H4 hS
  rintro kk _ wd45 ⟨v6, v8, g7, hm, H, hS⟩
  cases kk with
  | zero => exact noneE hm
  | succ kk =>
    rw [token_scanner_word_L1] at hm
    refine w_block ?_
    obtain ⟨y9, hy9, hm⟩ := bindE hm
    refine s_reg [(.int .i64 y9)] [0, 3, 4] [(0, [], .pointer (some ⟨b_c, 0, none⟩)), (3, [], .slice g7.a v6.length g7.c), (4, [], .int .i64 y9)] [fun wz => RetB Tryd.prog 18 ⟨[.pointer (some ⟨b_c, 0, none⟩), .int .i64 0]⟩ (.int .i64 y9) wz] H (by kernel_rfl) ⟨(token_scanner_peek_ok (b_c := b_c) _ _ _ _ hy9 _ (s0ro s0nil (hS.bk 1 rfl))), trivial⟩ fun _ wd10 H11 hb => ?_
    clear H
    replace hS := hS.below hb
    clear hb
    refine w_block ?_
    refine s_reg [(.bool (token_letter y9))] [0, 3, 4, 9] [(0, [], .pointer (some ⟨b_c, 0, none⟩)), (3, [], .slice g7.a v6.length g7.c), (4, [], .int .i64 y9), (9, [], .bool (token_letter y9))] [fun wz => RetB Tryd.prog 29 ⟨[.int .i64 y9]⟩ (.bool (token_letter y9)) wz] H11 (by kernel_rfl) ⟨((token_letter_ok _).b), trivial⟩ fun _ wd12 H13 hb => ?_
    clear H11
    replace hS := hS.below hb
    clear hb
    refine w_if H13 rfl (fun hc => ?_) (fun hc => ?_)
    · replace hm := bT hc hm
      refine w_seq ?_
      refine wl_start ?_
      refine wl_batch 0 3 [] [0, 12, 14] [(0, [], .pointer (some ⟨b_c, 0, none⟩)), (12, [], .slice g7.a v6.length g7.c), (14, [], .int .u8 (wu8 y9))] [] H13 (by decide) (by kernel_rfl) trivial fun _ wd14 H15 hb => ?_
      clear H13
      replace hS := hS.below hb
      clear hb
      have hd : S0 (AvL M [Ent.own 5 (tI .u8) v6 g7, Ent.blk b_c [.string ⟨⟨c_s⟩⟩, .int .i64 v8]]) [] _ := hS.hand [] [0, 1] rfl rfl
      refine m_stp [15, 0, 12] [(0, [], .pointer (some ⟨b_c, 0, none⟩)), (12, [], .slice g7.a v6.length g7.c)] H15 rfl rfl rfl rfl (o_lit (T := (tI .u8)) (E := 5) (zv := .int .u8 0) [.int .u8 (wu8 y9)] ([wu8 y9] : List Int) [gL []] _ H15 hd rfl (by kernel_rfl) (by kernel_rfl) (by kernel_rfl) (by kernel_rfl) (by kernel_rfl) (by kernel_rfl) (by kernel_rfl) rfl (InnL.cons trivial InnL.nil)) (fun _ => rfl) fun _ wd18 v H19 hq => ?_
      clear H15 hd
      obtain ⟨g16, rfl, hq⟩ := hq
      replace hS : SH M X w [Ent.own 5 (tI .u8) ([wu8 y9] : List Int) g16, Ent.own 5 (tI .u8) v6 g7, Ent.blk b_c [.string ⟨⟨c_s⟩⟩, .int .i64 v8]] _ := hS.join [] [0, 1] rfl rfl hq
      clear hq
      obtain ⟨ho20, hm⟩ := chkE hm
      obtain ⟨q21, hq21, hm⟩ := letE hm
      have hd : S0 (AvL M [Ent.blk b_c [.string ⟨⟨c_s⟩⟩, .int .i64 v8]]) [Ent.own 5 (tI .u8) v6 g7, Ent.own 5 (tI .u8) ([wu8 y9] : List Int) g16] _ := hS.hand [1, 0] [2] rfl rfl
      refine m_stp [16, 0] [(0, [], .pointer (some ⟨b_c, 0, none⟩))] H19 rfl rfl rfl rfl (o_app2 (T := (tI .u8)) (zv := .int .u8 0) (g1 := g7) (g2 := g16) (l1 := v6) (l2 := ([wu8 y9] : List Int)) q21 hq21.symm H19 hd rfl rfl rfl rfl rfl rfl rfl (by kernel_rfl) (by kernel_rfl) rfl rfl ho20) (fun _ => rfl) fun _ wd22 v H23 hq => ?_
      clear H19 hd
      obtain ⟨g24, rfl, hq⟩ := hq
      replace hS : SH M X w [Ent.own 5 (tI .u8) q21 g24, Ent.own 5 (tI .u8) ([wu8 y9] : List Int) g16, Ent.blk b_c [.string ⟨⟨c_s⟩⟩, .int .i64 v8]] _ := hS.join [1, 0] [2] rfl rfl hq
      clear hq
      refine wl_batch 5 6 [] [0, 3] [(0, [], .pointer (some ⟨b_c, 0, none⟩)), (3, [], .slice g24.a q21.length g24.c)] [] H23 (by decide) (by kernel_rfl) trivial fun _ wd25 H26 hb => ?_
      clear H23
      replace hS := hS.below hb
      clear hb
      refine wl_end rfl ?_
      replace hS : SH M X w [Ent.own 5 (tI .u8) q21 g24, Ent.blk b_c [.string ⟨⟨c_s⟩⟩, .int .i64 v8]] _ := hS.sel [0, 2] rfl
      refine wl_start ?_
      refine wl_batch 0 7 [(.int .i64 v8)] [0, 3, 21, 23] [(0, [], .pointer (some ⟨b_c, 0, none⟩)), (3, [], .slice g24.a q21.length g24.c), (21, [], .int .i64 (w64 (v8 + 1))), (23, [], .pointer (some ⟨b_c, 1, none⟩))] [fun wz => V.at1 ⟨b_c, 1, none⟩ (.int .i64 v8) wz] H26 (by decide) (by kernel_rfl) ⟨((hS.bk 1 rfl).at1 rfl), trivial⟩ fun _ wd27 H28 hb => ?_
      clear H26
      replace hS := hS.below hb
      clear hb
      have hd : S0 (AvL M [Ent.own 5 (tI .u8) q21 g24]) [Ent.blk b_c [.string ⟨⟨c_s⟩⟩, .int .i64 v8]] _ := hS.hand [1] [0] rfl rfl
      refine m_stp0 [0, 3] [(0, [], .pointer (some ⟨b_c, 0, none⟩)), (3, [], .slice g24.a q21.length g24.c)] H28 rfl rfl rfl (o_store [.string ⟨⟨c_s⟩⟩, .int .i64 (w64 (v8 + 1))] H28 hd rfl rfl (by kernel_rfl) rfl rfl rfl) rfl fun _ wd29 H30 hq => ?_
      clear H28 hd
      obtain ⟨_, hq⟩ := hq
      replace hS : SH M X w [Ent.blk b_c [.string ⟨⟨c_s⟩⟩, .int .i64 (w64 (v8 + 1))], Ent.own 5 (tI .u8) q21 g24] _ := hS.join [1] [0] rfl rfl hq
      clear hq
      refine wl_end rfl ?_
      replace hS : SH M X w [Ent.own 5 (tI .u8) q21 g24, Ent.blk b_c [.string ⟨⟨c_s⟩⟩, .int .i64 (w64 (v8 + 1))]] _ := hS.sel [1, 0] rfl
      exact ⟨_, Nat.lt_succ_self _, q21, w64 (v8 + 1), g24, hm, Fr.keep (ks := [0, 3]) H30 (by kernel_rfl), hS⟩
    · replace hm := bF hc hm
      obtain ⟨y31, hy31, hm⟩ := bindE hm
      refine s_reg [(.bool y31)] [0, 3, 24] [(0, [], .pointer (some ⟨b_c, 0, none⟩)), (3, [], .slice g7.a v6.length g7.c), (24, [], .bool (cond (y9 != (-1)) y31 false))] [fun wz => ((y9 != (-1)) = true ∧ True → RetB Tryd.prog 28 ⟨[.pointer (some ⟨b_c, 0, none⟩), .int .i64 0]⟩ (.bool y31) wz)] H13 (by kernel_rfl) ⟨fun hg => token_scanner_escape_ok (b_c := b_c) _ _ _ _ (bT (hg.1) hy31) _ (s0ro s0nil (hS.bk 1 rfl)), trivial⟩ fun _ wd32 H33 hb => ?_
      clear H13
      replace hS := hS.below hb
      clear hb
      refine w_if H33 rfl (fun hc => ?_) (fun hc => ?_)
      · replace hm := bT hc hm
        refine wl_start ?_
        refine wl_batch 0 2 [] [0, 31, 32] [(0, [], .pointer (some ⟨b_c, 0, none⟩)), (31, [], .pointer (some ⟨b_c, 0, none⟩)), (32, [], .slice g7.a v6.length g7.c)] [] H33 (by decide) (by kernel_rfl) trivial fun _ wd34 H35 hb => ?_
        clear H33
        replace hS := hS.below hb
        clear hb
        obtain ⟨y36, hy36, hm⟩ := bindE hm
        have hd : S0 (AvL M []) [Ent.blk b_c [.string ⟨⟨c_s⟩⟩, .int .i64 v8], Ent.own 5 (tI .u8) v6 g7] _ := hS.hand [1, 0] [] rfl rfl
        refine m_stp [33, 0] [(0, [], .pointer (some ⟨b_c, 0, none⟩))] H35 rfl rfl rfl rfl (o_callx H35 rfl rfl (token_scanner_escaped_ok (b_c := b_c) (g_b_ := g7) m _ _ _ _ hy36 _ _ hd)) (fun _ => rfl) fun _ wd39 v H40 hq => ?_
        clear H35 hd
        obtain ⟨g37, rfl, hq⟩ := hq
        replace hS : SH M X w [Ent.own 5 (tI .u8) y36.1 g37, Ent.blk b_c [.string ⟨⟨c_s⟩⟩, .int .i64 y36.2]] _ := hS.join [1, 0] [] rfl rfl hq
        clear hq
        refine wl_batch 3 4 [] [0, 3] [(0, [], .pointer (some ⟨b_c, 0, none⟩)), (3, [], .slice g37.a y36.1.length g37.c)] [] H40 (by decide) (by kernel_rfl) trivial fun _ wd41 H42 hb => ?_
        clear H40
        replace hS := hS.below hb
        clear hb
        refine wl_end rfl ?_
        exact ⟨_, Nat.lt_succ_self _, y36.1, y36.2, g37, hm, Fr.keep (ks := [0, 3]) H42 (by kernel_rfl), hS⟩
      · replace hm := bF hc hm
        refine s_reg [(.string ⟨⟨toB v6⟩⟩)] [2] [(2, [], .string ⟨⟨toB v6⟩⟩)] [fun wz => ∀ w', Below wz.heap.size wz w' → (convert 47 9 (.slice g7.a v6.length g7.c)).run Tryd.prog w' = .ok (.string ⟨⟨toB v6⟩⟩) w'] H33 (by kernel_rfl) ⟨(conv_slG (E := 5) (by kernel_rfl) (by kernel_rfl) (by kernel_rfl) (hS.osl 0 rfl)), trivial⟩ fun _ wd43 H44 hb => ?_
        clear H33
        replace hS := hS.below hb
        clear hb
        refine w_ret ?_
        obtain rfl := someE hm
        exact retR1 H44 rfl rfl ⟨_, rfl, rfl, (hS.sel [1] rfl)⟩
theorem token_scanner_word_ok {b_c : Nat} (m : Nat) (c_s : Str) (c_at_ : Int) (r : Str × Int) (hm : token_scanner_word m c_s c_at_ = some r) (M : Av) (w : World) (hS : S0 M [Ent.blk b_c [.string ⟨⟨c_s⟩⟩, .int .i64 c_at_]] w) : DoesX Tryd.prog 15 ⟨[.pointer (some ⟨b_c, 0, none⟩)]⟩ w (fun v w' => v = .string ⟨⟨r.1⟩⟩ ∧ SH M (fpl [Ent.blk b_c [.string ⟨⟨c_s⟩⟩, .int .i64 c_at_]]) w [Ent.blk b_c [.string ⟨⟨c_s⟩⟩, .int .i64 r.2]] w') := ⟨Tryd.call15 _, token_scanner_word_w M m   c_s c_at_ r hm w hS⟩

def token_Name (m : Nat) (s : Str) : Option (Str × Int) :=
  cond (decide (4000 < (ln s))) (
  some ([], 28)) (
  Option.bind (token_scanner_name s 0 0) fun y14 =>
  cond (!y14) (
  some ([], 12)) (
  Option.bind (token_scanner_word m s 0) fun y21 =>
  cond (decide (y21.2 < (ln s))) (
  some ([], 12)) (
  some (y21.1, 0))))
theorem token_Name_w  (M : Av) (m : Nat) (s : Str) (r : Str × Int) (hm : token_Name m s = some r) (w : World) (hS : S0 M [] w) : Calls Tryd.prog 6 ⟨[.string ⟨⟨s⟩⟩]⟩ w (fun e w' => ∃ v, e = .returned v ∧ v = .tuple ⟨[.string ⟨⟨r.1⟩⟩, .int .i64 r.2]⟩ ∧ SH M (fpl []) w [] w') := by
  rw [token_Name] at hm
  have hS0 : SH M (fpl []) w [] w := hS
  generalize hX : fpl [] = X at hS0 ⊢
  clear hS hX
  have hS := hS0
  clear hS0
  refine calls_entryP Tryd.func6 rfl Tryd.ntmps6 rfl fun _ H => ?_
  refine s_reg [] [0] [(0, [], .string ⟨⟨s⟩⟩)] [] H (by kernel_rfl) trivial fun _ wd1 H2 hb => ?_
  clear H
  replace hS := hS.below hb
  clear hb
  refine w_seq ?_
  refine s_reg [] [0, 8] [(0, [], .string ⟨⟨s⟩⟩), (8, [], .bool (decide (4000 < (ln s))))] [] H2 (by kernel_rfl) trivial fun _ wd3 H4 hb => ?_
  clear H2
  replace hS := hS.below hb
  clear hb
  refine w_if H4 rfl (fun hc => ?_) (fun hc => ?_)
  · replace hm := bT hc hm
    refine s_reg [] [2, 3] [(2, [], .string ⟨⟨[]⟩⟩), (3, [], .int .i64 28)] [] H4 (by kernel_rfl) trivial fun _ wd5 H6 hb => ?_
    clear H4
    replace hS := hS.below hb
    clear hb
    refine w_ret ?_
    obtain rfl := someE hm
    exact retR2 H6 rfl rfl rfl ⟨_, rfl, rfl, (hS.sel [] rfl)⟩
  · replace hm := bF hc hm
    refine w_skip ?_
    refine w_seq ?_
    refine wl_start ?_
    refine wl_batch 0 2 [] [0, 10] [(0, [], .string ⟨⟨s⟩⟩), (10, [], .agg ⟨[.string ⟨⟨s⟩⟩, .int .i64 0]⟩)] [] H4 (by decide) (by kernel_rfl) trivial fun _ wd7 H8 hb => ?_
    clear H4
    replace hS := hS.below hb
    clear hb
    have hd : S0 (AvL M []) [] _ := hS.hand [] [] rfl rfl
    refine m_stp [11, 0] [(0, [], .string ⟨⟨s⟩⟩)] H8 rfl rfl rfl rfl (o_box [.string ⟨⟨s⟩⟩, .int .i64 0] H8 hd rfl rfl) (fun _ => rfl) fun _ wd10 v H11 hq => ?_
    clear H8 hd
    obtain ⟨b9, rfl, hq⟩ := hq
    replace hS : SH M X w [Ent.blk b9 [.string ⟨⟨s⟩⟩, .int .i64 0]] _ := hS.join [] [] rfl rfl hq
    clear hq
    refine wl_batch 3 4 [] [0, 4] [(0, [], .string ⟨⟨s⟩⟩), (4, [], .pointer (some ⟨b9, 0, none⟩))] [] H11 (by decide) (by kernel_rfl) trivial fun _ wd12 H13 hb => ?_
    clear H11
    replace hS := hS.below hb
    clear hb
    refine wl_end rfl ?_
    refine w_seq ?_
    obtain ⟨y14, hy14, hm⟩ := bindE hm
    refine s_reg [(.bool y14)] [0, 4, 14] [(0, [], .string ⟨⟨s⟩⟩), (4, [], .pointer (some ⟨b9, 0, none⟩)), (14, [], .bool (!y14))] [fun wz => RetB Tryd.prog 14 ⟨[.pointer (some ⟨b9, 0, none⟩), .int .i64 0]⟩ (.bool y14) wz] H13 (by kernel_rfl) ⟨(token_scanner_name_ok (b_c := b9) _ _ _ _ hy14 _ (s0ro s0nil (hS.bk 0 rfl))), trivial⟩ fun _ wd15 H16 hb => ?_
    clear H13
    replace hS := hS.below hb
    clear hb
    refine w_if H16 rfl (fun hc => ?_) (fun hc => ?_)
    · replace hm := bT hc hm
      refine s_reg [] [2, 3] [(2, [], .string ⟨⟨[]⟩⟩), (3, [], .int .i64 12)] [] H16 (by kernel_rfl) trivial fun _ wd17 H18 hb => ?_
      clear H16
      replace hS := hS.below hb
      clear hb
      replace hS : SH M X w [] _ := hS.sel [] rfl
      refine w_ret ?_
      obtain rfl := someE hm
      exact retR2 H18 rfl rfl rfl ⟨_, rfl, rfl, (hS.sel [] rfl)⟩
    · replace hm := bF hc hm
      refine w_skip ?_
      refine w_seq ?_
      refine wl_start ?_
      refine wl_batch 0 1 [] [0, 4, 15] [(0, [], .string ⟨⟨s⟩⟩), (4, [], .pointer (some ⟨b9, 0, none⟩)), (15, [], .pointer (some ⟨b9, 0, none⟩))] [] H16 (by decide) (by kernel_rfl) trivial fun _ wd19 H20 hb => ?_
      clear H16
      replace hS := hS.below hb
      clear hb
      obtain ⟨y21, hy21, hm⟩ := bindE hm
      have hd : S0 (AvL M []) [Ent.blk b9 [.string ⟨⟨s⟩⟩, .int .i64 0]] _ := hS.hand [0] [] rfl rfl
      refine m_stp [16, 0, 4] [(0, [], .string ⟨⟨s⟩⟩), (4, [], .pointer (some ⟨b9, 0, none⟩))] H20 rfl rfl rfl rfl (o_callx H20 rfl rfl (token_scanner_word_ok (b_c := b9) m _ _ _ hy21 _ _ hd)) (fun _ => rfl) fun _ wd22 v H23 hq => ?_
      clear H20 hd
      obtain ⟨rfl, hq⟩ := hq
      replace hS : SH M X w [Ent.blk b9 [.string ⟨⟨s⟩⟩, .int .i64 y21.2]] _ := hS.join [0] [] rfl rfl hq
      clear hq
      refine wl_batch 2 3 [] [0, 4, 5] [(0, [], .string ⟨⟨s⟩⟩), (4, [], .pointer (some ⟨b9, 0, none⟩)), (5, [], .string ⟨⟨y21.1⟩⟩)] [] H23 (by decide) (by kernel_rfl) trivial fun _ wd24 H25 hb => ?_
      clear H23
      replace hS := hS.below hb
      clear hb
      refine wl_end rfl ?_
      refine w_seq ?_
      refine s_reg [(.int .i64 y21.2)] [5, 23] [(5, [], .string ⟨⟨y21.1⟩⟩), (23, [], .bool (decide (y21.2 < (ln s))))] [fun wz => V.at1 ⟨b9, 1, none⟩ (.int .i64 y21.2) wz] H25 (by kernel_rfl) ⟨((hS.bk 0 rfl).at1 rfl), trivial⟩ fun _ wd26 H27 hb => ?_
      clear H25
      replace hS := hS.below hb
      clear hb
      replace hS : SH M X w [] _ := hS.sel [] rfl
      refine w_if H27 rfl (fun hc => ?_) (fun hc => ?_)
      · replace hm := bT hc hm
        refine s_reg [] [2, 3] [(2, [], .string ⟨⟨[]⟩⟩), (3, [], .int .i64 12)] [] H27 (by kernel_rfl) trivial fun _ wd28 H29 hb => ?_
        clear H27
        replace hS := hS.below hb
        clear hb
        refine w_ret ?_
        obtain rfl := someE hm
        exact retR2 H29 rfl rfl rfl ⟨_, rfl, rfl, (hS.sel [] rfl)⟩
      · replace hm := bF hc hm
        refine w_skip ?_
        refine s_reg [] [2, 3] [(2, [], .string ⟨⟨y21.1⟩⟩), (3, [], .int .i64 0)] [] H27 (by kernel_rfl) trivial fun _ wd30 H31 hb => ?_
        clear H27
        replace hS := hS.below hb
        clear hb
        refine w_ret ?_
        obtain rfl := someE hm
        exact retR2 H31 rfl rfl rfl ⟨_, rfl, rfl, (hS.sel [] rfl)⟩
theorem token_Name_ok  (m : Nat) (s : Str) (r : Str × Int) (hm : token_Name m s = some r) : Ret Tryd.prog 6 ⟨[.string ⟨⟨s⟩⟩]⟩ (.tuple ⟨[.string ⟨⟨r.1⟩⟩, .int .i64 r.2]⟩) := retP_of (Tryd.call6 _) (fun w h => token_Name_w F0 m   s r hm w h)

def r01_Small (c_ : Int) : Int :=
  lt (cond (decide (65 ≤ c_)) (decide (c_ ≤ 90)) false) fun x3 =>
  cond x3 (
  wu8 ((wu8 (c_ - 65)) + 97)) (
  c_)
theorem r01_Small_w  (M : Av) (c_ : Int) (r : Int) (hm : r01_Small c_ = r) (w : World) (hS : S0 M [] w) : Calls Tryd.prog 47 ⟨[.int .u8 c_]⟩ w (fun e w' => ∃ v, e = .returned v ∧ v = .int .u8 r ∧ SH M (fpl []) w [] w') := by
  rw [r01_Small] at hm
  have hS0 : SH M (fpl []) w [] w := hS
  generalize hX : fpl [] = X at hS0 ⊢
  clear hS hX
  have hS := hS0
  clear hS0
  refine calls_entryP Tryd.func47 rfl Tryd.ntmps47 rfl fun _ H => ?_
  refine s_reg [] [0] [(0, [], .int .u8 c_)] [] H (by kernel_rfl) trivial fun _ wd1 H2 hb => ?_
  clear H
  replace hS := hS.below hb
  clear hb
  refine w_seq ?_
  obtain ⟨x3, hx3, hm⟩ := letE hm
  refine s_reg [] [0, 8] [(0, [], .int .u8 c_), (8, [], .bool x3)] [] H2 (by subst hx3; kernel_rfl) trivial fun _ wd4 H5 hb => ?_
  clear H2
  replace hS := hS.below hb
  clear hb
  refine w_if H5 rfl (fun hc => ?_) (fun hc => ?_)
  · replace hm := bT hc hm
    refine s_reg [] [2] [(2, [], .int .u8 (wu8 ((wu8 (c_ - 65)) + 97)))] [] H5 (by kernel_rfl) trivial fun _ wd6 H7 hb => ?_
    clear H5
    replace hS := hS.below hb
    clear hb
    refine w_ret ?_
    subst hm
    exact retR1 H7 rfl rfl ⟨_, rfl, rfl, (hS.sel [] rfl)⟩
  · replace hm := bF hc hm
    refine w_skip ?_
    refine s_reg [] [2] [(2, [], .int .u8 c_)] [] H5 (by kernel_rfl) trivial fun _ wd8 H9 hb => ?_
    clear H5
    replace hS := hS.below hb
    clear hb
    refine w_ret ?_
    subst hm
    exact retR1 H9 rfl rfl ⟨_, rfl, rfl, (hS.sel [] rfl)⟩
theorem r01_Small_ok  (c_ : Int) : Ret Tryd.prog 47 ⟨[.int .u8 c_]⟩ (.int .u8 (r01_Small c_)) := retP_of (Tryd.call47 _) (fun w h => r01_Small_w F0   c_ _ rfl w h)

def r02_Starts (c_ : Int) : Bool :=
  lt (cond (decide (97 ≤ (r01_Small c_))) (decide ((r01_Small c_) ≤ 122)) false) fun x5 =>
  lt (cond (cond x5 true (c_ == 95)) true (decide (128 ≤ c_))) fun x6 =>
  x6
theorem r02_Starts_w  (M : Av) (c_ : Int) (r : Bool) (hm : r02_Starts c_ = r) (w : World) (hS : S0 M [] w) : Calls Tryd.prog 31 ⟨[.int .u8 c_]⟩ w (fun e w' => ∃ v, e = .returned v ∧ v = .bool r ∧ SH M (fpl []) w [] w') := by
  rw [r02_Starts] at hm
  have hS0 : SH M (fpl []) w [] w := hS
  generalize hX : fpl [] = X at hS0 ⊢
  clear hS hX
  have hS := hS0
  clear hS0
  refine calls_entryP Tryd.func31 rfl Tryd.ntmps31 rfl fun _ H => ?_
  refine s_reg [] [0] [(0, [], .int .u8 c_)] [] H (by kernel_rfl) trivial fun _ wd1 H2 hb => ?_
  clear H
  replace hS := hS.below hb
  clear hb
  refine s_reg [(.int .u8 (r01_Small c_))] [0, 3] [(0, [], .int .u8 c_), (3, [], .int .u8 (r01_Small c_))] [fun wz => RetB Tryd.prog 47 ⟨[.int .u8 c_]⟩ (.int .u8 (r01_Small c_)) wz] H2 (by kernel_rfl) ⟨((r01_Small_ok _).b), trivial⟩ fun _ wd3 H4 hb => ?_
  clear H2
  replace hS := hS.below hb
  clear hb
  obtain ⟨x5, hx5, hm⟩ := letE hm
  obtain ⟨x6, hx6, hm⟩ := letE hm
  refine s_reg [] [2] [(2, [], .bool x6)] [] H4 (by subst hx5 hx6; kernel_rfl) trivial fun _ wd7 H8 hb => ?_
  clear H4
  replace hS := hS.below hb
  clear hb
  refine w_ret ?_
  subst hm
  exact retR1 H8 rfl rfl ⟨_, rfl, rfl, (hS.sel [] rfl)⟩
theorem r02_Starts_ok  (c_ : Int) : Ret Tryd.prog 31 ⟨[.int .u8 c_]⟩ (.bool (r02_Starts c_)) := retP_of (Tryd.call31 _) (fun w h => r02_Starts_w F0   c_ _ rfl w h)

def r02_Escape (s : Str) (i : Int) : Option (Bool) :=
  Option.bind (r02_At s i) fun y3 =>
  Option.bind (cond (y3 == 92) (r02_At s (w64 (i + 1))) (some default)) fun y4 =>
  some (cond (y3 == 92) (y4 != 10) false)
theorem r02_Escape_w  (M : Av) (s : Str) (i : Int) (r : Bool) (hm : r02_Escape s i = some r) (w : World) (hS : S0 M [] w) : Calls Tryd.prog 32 ⟨[.string ⟨⟨s⟩⟩, .int .i64 i]⟩ w (fun e w' => ∃ v, e = .returned v ∧ v = .bool r ∧ SH M (fpl []) w [] w') := by
  rw [r02_Escape] at hm
  have hS0 : SH M (fpl []) w [] w := hS
  generalize hX : fpl [] = X at hS0 ⊢
  clear hS hX
  have hS := hS0
  clear hS0
  refine calls_entryP Tryd.func32 rfl Tryd.ntmps32 rfl fun _ H => ?_
  refine s_reg [] [0, 1] [(0, [], .string ⟨⟨s⟩⟩), (1, [], .int .i64 i)] [] H (by kernel_rfl) trivial fun _ wd1 H2 hb => ?_
  clear H
  replace hS := hS.below hb
  clear hb
  obtain ⟨y3, hy3, hm⟩ := bindE hm
  obtain ⟨y4, hy4, hm⟩ := bindE hm
  refine s_reg [(.int .u8 y3), (.int .u8 y4)] [4] [(4, [], .bool (cond (y3 == 92) (y4 != 10) false))] [fun wz => RetB Tryd.prog 24 ⟨[.string ⟨⟨s⟩⟩, .int .i64 i]⟩ (.int .u8 y3) wz, fun wz => ((y3 == 92) = true ∧ True → RetB Tryd.prog 24 ⟨[.string ⟨⟨s⟩⟩, .int .i64 (w64 (i + 1))]⟩ (.int .u8 y4) wz)] H2 (by kernel_rfl) ⟨((r02_At_ok _ _ _ hy3).b), fun hg => (r02_At_ok _ _ _ (bT (hg.1) hy4)).b, trivial⟩ fun _ wd5 H6 hb => ?_
  clear H2
  replace hS := hS.below hb
  clear hb
  refine w_ret ?_
  obtain rfl := someE hm
  exact retR1 H6 rfl rfl ⟨_, rfl, rfl, (hS.sel [] rfl)⟩
theorem r02_Escape_ok  (s : Str) (i : Int) (r : Bool) (hm : r02_Escape s i = some r) : Ret Tryd.prog 32 ⟨[.string ⟨⟨s⟩⟩, .int .i64 i]⟩ (.bool r) := retP_of (Tryd.call32 _) (fun w h => r02_Escape_w F0   s i r hm w h)

def r02_NameAt (s : Str) (i : Int) : Option (Bool) :=
  Option.bind (r02_At s i) fun y3 =>
  cond (y3 == 45) (
  Option.bind (r02_At s (w64 (i + 1))) fun y6 =>
  Option.bind (cond (r02_Starts y6) (some default) (r02_At s (w64 (i + 1)))) fun y7 =>
  Option.bind (cond (cond (r02_Starts y6) true (y7 == 45)) (some default) (r02_Escape s (w64 (i + 1)))) fun y8 =>
  lt (cond (cond (r02_Starts y6) true (y7 == 45)) true y8) fun x9 =>
  some x9) (
  Option.bind (r02_At s i) fun y12 =>
  Option.bind (cond (r02_Starts y12) (some default) (r02_Escape s i)) fun y13 =>
  some (cond (r02_Starts y12) true y13))
theorem r02_NameAt_w  (M : Av) (s : Str) (i : Int) (r : Bool) (hm : r02_NameAt s i = some r) (w : World) (hS : S0 M [] w) : Calls Tryd.prog 16 ⟨[.string ⟨⟨s⟩⟩, .int .i64 i]⟩ w (fun e w' => ∃ v, e = .returned v ∧ v = .bool r ∧ SH M (fpl []) w [] w') := by
  rw [r02_NameAt] at hm
  have hS0 : SH M (fpl []) w [] w := hS
  generalize hX : fpl [] = X at hS0 ⊢
  clear hS hX
  have hS := hS0
  clear hS0
  refine calls_entryP Tryd.func16 rfl Tryd.ntmps16 rfl fun _ H => ?_
  refine s_reg [] [0, 1] [(0, [], .string ⟨⟨s⟩⟩), (1, [], .int .i64 i)] [] H (by kernel_rfl) trivial fun _ wd1 H2 hb => ?_
  clear H
  replace hS := hS.below hb
  clear hb
  refine w_seq ?_
  obtain ⟨y3, hy3, hm⟩ := bindE hm
  refine s_reg [(.int .u8 y3)] [0, 1, 8] [(0, [], .string ⟨⟨s⟩⟩), (1, [], .int .i64 i), (8, [], .bool (y3 == 45))] [fun wz => RetB Tryd.prog 24 ⟨[.string ⟨⟨s⟩⟩, .int .i64 i]⟩ (.int .u8 y3) wz] H2 (by kernel_rfl) ⟨((r02_At_ok _ _ _ hy3).b), trivial⟩ fun _ wd4 H5 hb => ?_
  clear H2
  replace hS := hS.below hb
  clear hb
  refine w_if H5 rfl (fun hc => ?_) (fun hc => ?_)
  · replace hm := bT hc hm
    obtain ⟨y6, hy6, hm⟩ := bindE hm
    obtain ⟨y7, hy7, hm⟩ := bindE hm
    obtain ⟨y8, hy8, hm⟩ := bindE hm
    obtain ⟨x9, hx9, hm⟩ := letE hm
    refine s_reg [(.int .u8 y6), (.bool (r02_Starts y6)), (.int .u8 y7), (.bool y8)] [4] [(4, [], .bool x9)] [fun wz => RetB Tryd.prog 24 ⟨[.string ⟨⟨s⟩⟩, .int .i64 (w64 (i + 1))]⟩ (.int .u8 y6) wz, fun wz => RetB Tryd.prog 31 ⟨[.int .u8 y6]⟩ (.bool (r02_Starts y6)) wz, fun wz => ((r02_Starts y6) = false ∧ True → RetB Tryd.prog 24 ⟨[.string ⟨⟨s⟩⟩, .int .i64 (w64 (i + 1))]⟩ (.int .u8 y7) wz), fun wz => ((cond (r02_Starts y6) true (y7 == 45)) = false ∧ True → RetB Tryd.prog 32 ⟨[.string ⟨⟨s⟩⟩, .int .i64 (w64 (i + 1))]⟩ (.bool y8) wz)] H5 (by subst hx9; kernel_rfl) ⟨((r02_At_ok _ _ _ hy6).b), ((r02_Starts_ok _).b), fun hg => (r02_At_ok _ _ _ (bF (hg.1) hy7)).b, fun hg => (r02_Escape_ok _ _ _ (bF (hg.1) hy8)).b, trivial⟩ fun _ wd10 H11 hb => ?_
    clear H5
    replace hS := hS.below hb
    clear hb
    refine w_ret ?_
    obtain rfl := someE hm
    exact retR1 H11 rfl rfl ⟨_, rfl, rfl, (hS.sel [] rfl)⟩
  · replace hm := bF hc hm
    refine w_skip ?_
    obtain ⟨y12, hy12, hm⟩ := bindE hm
    obtain ⟨y13, hy13, hm⟩ := bindE hm
    refine s_reg [(.int .u8 y12), (.bool (r02_Starts y12)), (.bool y13)] [4] [(4, [], .bool (cond (r02_Starts y12) true y13))] [fun wz => RetB Tryd.prog 24 ⟨[.string ⟨⟨s⟩⟩, .int .i64 i]⟩ (.int .u8 y12) wz, fun wz => RetB Tryd.prog 31 ⟨[.int .u8 y12]⟩ (.bool (r02_Starts y12)) wz, fun wz => ((r02_Starts y12) = false ∧ True → RetB Tryd.prog 32 ⟨[.string ⟨⟨s⟩⟩, .int .i64 i]⟩ (.bool y13) wz)] H5 (by kernel_rfl) ⟨((r02_At_ok _ _ _ hy12).b), ((r02_Starts_ok _).b), fun hg => (r02_Escape_ok _ _ _ (bF (hg.1) hy13)).b, trivial⟩ fun _ wd14 H15 hb => ?_
    clear H5
    replace hS := hS.below hb
    clear hb
    refine w_ret ?_
    obtain rfl := someE hm
    exact retR1 H15 rfl rfl ⟨_, rfl, rfl, (hS.sel [] rfl)⟩
theorem r02_NameAt_ok  (s : Str) (i : Int) (r : Bool) (hm : r02_NameAt s i = some r) : Ret Tryd.prog 16 ⟨[.string ⟨⟨s⟩⟩, .int .i64 i]⟩ (.bool r) := retP_of (Tryd.call16 _) (fun w h => r02_NameAt_w F0   s i r hm w h)

def r02_Letter (c_ : Int) : Bool :=
  lt (cond (cond (r02_Starts c_) true (r02_Digit c_)) true (c_ == 45)) fun x3 =>
  x3
theorem r02_Letter_w  (M : Av) (c_ : Int) (r : Bool) (hm : r02_Letter c_ = r) (w : World) (hS : S0 M [] w) : Calls Tryd.prog 33 ⟨[.int .u8 c_]⟩ w (fun e w' => ∃ v, e = .returned v ∧ v = .bool r ∧ SH M (fpl []) w [] w') := by
  rw [r02_Letter] at hm
  have hS0 : SH M (fpl []) w [] w := hS
  generalize hX : fpl [] = X at hS0 ⊢
  clear hS hX
  have hS := hS0
  clear hS0
  refine calls_entryP Tryd.func33 rfl Tryd.ntmps33 rfl fun _ H => ?_
  refine s_reg [] [0] [(0, [], .int .u8 c_)] [] H (by kernel_rfl) trivial fun _ wd1 H2 hb => ?_
  clear H
  replace hS := hS.below hb
  clear hb
  obtain ⟨x3, hx3, hm⟩ := letE hm
  refine s_reg [(.bool (r02_Starts c_)), (.bool (r02_Digit c_))] [2] [(2, [], .bool x3)] [fun wz => RetB Tryd.prog 31 ⟨[.int .u8 c_]⟩ (.bool (r02_Starts c_)) wz, fun wz => ((r02_Starts c_) = false ∧ True → RetB Tryd.prog 25 ⟨[.int .u8 c_]⟩ (.bool (r02_Digit c_)) wz)] H2 (by subst hx3; kernel_rfl) ⟨((r02_Starts_ok _).b), fun hg => (r02_Digit_ok _).b, trivial⟩ fun _ wd4 H5 hb => ?_
  clear H2
  replace hS := hS.below hb
  clear hb
  refine w_ret ?_
  subst hm
  exact retR1 H5 rfl rfl ⟨_, rfl, rfl, (hS.sel [] rfl)⟩
theorem r02_Letter_ok  (c_ : Int) : Ret Tryd.prog 33 ⟨[.int .u8 c_]⟩ (.bool (r02_Letter c_)) := retP_of (Tryd.call33 _) (fun w h => r02_Letter_w F0   c_ _ rfl w h)

def r02_lost  : Str :=
  toB ([239, 191, 189] : List Int)
theorem r02_lost_w  (M : Av)  (r : Str) (hm : r02_lost = r) (w : World) (hS : S0 M [] w) : Calls Tryd.prog 48 ⟨[]⟩ w (fun e w' => ∃ v, e = .returned v ∧ v = .string ⟨⟨r⟩⟩ ∧ SH M (fpl []) w [] w') := by
  rw [r02_lost] at hm
  have hS0 : SH M (fpl []) w [] w := hS
  generalize hX : fpl [] = X at hS0 ⊢
  clear hS hX
  have hS := hS0
  clear hS0
  refine calls_entryP Tryd.func48 rfl Tryd.ntmps48 rfl fun _ H => ?_
  refine s_reg [] [] [] [] H (by kernel_rfl) trivial fun _ wd1 H2 hb => ?_
  clear H
  replace hS := hS.below hb
  clear hb
  refine w_seq ?_
  refine wl_start ?_
  have hd : S0 (AvL M []) [] _ := hS.hand [] [] rfl rfl
  refine m_stp [1] [] H2 rfl rfl rfl rfl (o_lit (T := (tI .u8)) (E := 5) (zv := .int .u8 0) [.int .u8 239, .int .u8 191, .int .u8 189] ([239, 191, 189] : List Int) [gL [], gL [], gL []] _ H2 hd rfl (by kernel_rfl) (by kernel_rfl) (by kernel_rfl) (by kernel_rfl) (by kernel_rfl) (by kernel_rfl) (by kernel_rfl) rfl (InnL.cons trivial (InnL.cons trivial (InnL.cons trivial InnL.nil)))) (fun _ => rfl) fun _ wd5 v H6 hq => ?_
  clear H2 hd
  obtain ⟨g3, rfl, hq⟩ := hq
  replace hS : SH M X w [Ent.own 5 (tI .u8) ([239, 191, 189] : List Int) g3] _ := hS.join [] [] rfl rfl hq
  clear hq
  refine wl_batch 1 3 [(.string ⟨⟨toB ([239, 191, 189] : List Int)⟩⟩)] [0] [(0, [], .string ⟨⟨toB ([239, 191, 189] : List Int)⟩⟩)] [fun wz => ∀ w', Below wz.heap.size wz w' → (convert 47 9 (.slice g3.a 3 g3.c)).run Tryd.prog w' = .ok (.string ⟨⟨toB ([239, 191, 189] : List Int)⟩⟩) w'] H6 (by decide) (by kernel_rfl) ⟨(conv_slG (E := 5) (by kernel_rfl) (by kernel_rfl) (by kernel_rfl) (hS.osl 0 rfl)), trivial⟩ fun _ wd7 H8 hb => ?_
  clear H6
  replace hS := hS.below hb
  clear hb
  refine wl_end rfl ?_
  replace hS : SH M X w [] _ := hS.sel [] rfl
  refine w_ret ?_
  subst hm
  exact retR1 H8 rfl rfl ⟨_, rfl, rfl, (hS.sel [] rfl)⟩
theorem r02_lost_ok   : Ret Tryd.prog 48 ⟨[]⟩ (.string ⟨⟨r02_lost⟩⟩) := retP_of (Tryd.call48 _) (fun w h => r02_lost_w F0    _ rfl w h)

def r02_Hex (c_ : Int) : Int :=
  cond (r02_Digit c_) (
  w64 (wu8 (c_ - 48))) (
  lt (cond (decide (97 ≤ (r01_Small c_))) (decide ((r01_Small c_) ≤ 102)) false) fun x9 =>
  cond x9 (
  lt (w64 ((w64 (wu8 ((r01_Small c_) - 97))) + 10)) fun x12 =>
  x12) (
  (-1)))
theorem r02_Hex_w  (M : Av) (c_ : Int) (r : Int) (hm : r02_Hex c_ = r) (w : World) (hS : S0 M [] w) : Calls Tryd.prog 49 ⟨[.int .u8 c_]⟩ w (fun e w' => ∃ v, e = .returned v ∧ v = .int .i64 r ∧ SH M (fpl []) w [] w') := by
  rw [r02_Hex] at hm
  have hS0 : SH M (fpl []) w [] w := hS
  generalize hX : fpl [] = X at hS0 ⊢
  clear hS hX
  have hS := hS0
  clear hS0
  refine calls_entryP Tryd.func49 rfl Tryd.ntmps49 rfl fun _ H => ?_
  refine s_reg [] [0] [(0, [], .int .u8 c_)] [] H (by kernel_rfl) trivial fun _ wd1 H2 hb => ?_
  clear H
  replace hS := hS.below hb
  clear hb
  refine w_seq ?_
  refine s_reg [(.bool (r02_Digit c_))] [0, 4] [(0, [], .int .u8 c_), (4, [], .bool (r02_Digit c_))] [fun wz => RetB Tryd.prog 25 ⟨[.int .u8 c_]⟩ (.bool (r02_Digit c_)) wz] H2 (by kernel_rfl) ⟨((r02_Digit_ok _).b), trivial⟩ fun _ wd3 H4 hb => ?_
  clear H2
  replace hS := hS.below hb
  clear hb
  refine w_if H4 rfl (fun hc => ?_) (fun hc => ?_)
  · replace hm := bT hc hm
    refine s_reg [] [2] [(2, [], .int .i64 (w64 (wu8 (c_ - 48))))] [] H4 (by kernel_rfl) trivial fun _ wd5 H6 hb => ?_
    clear H4
    replace hS := hS.below hb
    clear hb
    refine w_ret ?_
    subst hm
    exact retR1 H6 rfl rfl ⟨_, rfl, rfl, (hS.sel [] rfl)⟩
  · replace hm := bF hc hm
    refine w_skip ?_
    refine s_reg [(.int .u8 (r01_Small c_))] [0] [(0, [], .int .u8 (r01_Small c_))] [fun wz => RetB Tryd.prog 47 ⟨[.int .u8 c_]⟩ (.int .u8 (r01_Small c_)) wz] H4 (by kernel_rfl) ⟨((r01_Small_ok _).b), trivial⟩ fun _ wd7 H8 hb => ?_
    clear H4
    replace hS := hS.below hb
    clear hb
    refine w_seq ?_
    obtain ⟨x9, hx9, hm⟩ := letE hm
    refine s_reg [] [0, 15] [(0, [], .int .u8 (r01_Small c_)), (15, [], .bool x9)] [] H8 (by subst hx9; kernel_rfl) trivial fun _ wd10 H11 hb => ?_
    clear H8
    replace hS := hS.below hb
    clear hb
    refine w_if H11 rfl (fun hc => ?_) (fun hc => ?_)
    · replace hm := bT hc hm
      obtain ⟨x12, hx12, hm⟩ := letE hm
      refine s_reg [] [2] [(2, [], .int .i64 x12)] [] H11 (by subst hx12; kernel_rfl) trivial fun _ wd13 H14 hb => ?_
      clear H11
      replace hS := hS.below hb
      clear hb
      refine w_ret ?_
      subst hm
      exact retR1 H14 rfl rfl ⟨_, rfl, rfl, (hS.sel [] rfl)⟩
    · replace hm := bF hc hm
      refine w_skip ?_
      refine s_reg [] [2] [(2, [], .int .i64 (-1))] [] H11 (by kernel_rfl) trivial fun _ wd15 H16 hb => ?_
      clear H11
      replace hS := hS.below hb
      clear hb
      refine w_ret ?_
      subst hm
      exact retR1 H16 rfl rfl ⟨_, rfl, rfl, (hS.sel [] rfl)⟩
theorem r02_Hex_ok  (c_ : Int) : Ret Tryd.prog 49 ⟨[.int .u8 c_]⟩ (.int .i64 (r02_Hex c_)) := retP_of (Tryd.call49 _) (fun w h => r02_Hex_w F0   c_ _ rfl w h)

def r02_Space (c_ : Int) : Bool :=
  lt (cond (cond (c_ == 10) true (c_ == 9)) true (c_ == 32)) fun x3 =>
  x3
theorem r02_Space_w  (M : Av) (c_ : Int) (r : Bool) (hm : r02_Space c_ = r) (w : World) (hS : S0 M [] w) : Calls Tryd.prog 50 ⟨[.int .u8 c_]⟩ w (fun e w' => ∃ v, e = .returned v ∧ v = .bool r ∧ SH M (fpl []) w [] w') := by
  rw [r02_Space] at hm
  have hS0 : SH M (fpl []) w [] w := hS
  generalize hX : fpl [] = X at hS0 ⊢
  clear hS hX
  have hS := hS0
  clear hS0
  refine calls_entryP Tryd.func50 rfl Tryd.ntmps50 rfl fun _ H => ?_
  refine s_reg [] [0] [(0, [], .int .u8 c_)] [] H (by kernel_rfl) trivial fun _ wd1 H2 hb => ?_
  clear H
  replace hS := hS.below hb
  clear hb
  obtain ⟨x3, hx3, hm⟩ := letE hm
  refine s_reg [] [2] [(2, [], .bool x3)] [] H2 (by subst hx3; kernel_rfl) trivial fun _ wd4 H5 hb => ?_
  clear H2
  replace hS := hS.below hb
  clear hb
  refine w_ret ?_
  subst hm
  exact retR1 H5 rfl rfl ⟨_, rfl, rfl, (hS.sel [] rfl)⟩
theorem r02_Space_ok  (c_ : Int) : Ret Tryd.prog 50 ⟨[.int .u8 c_]⟩ (.bool (r02_Space c_)) := retP_of (Tryd.call50 _) (fun w h => r02_Space_w F0   c_ _ rfl w h)

def r02_UTF8 (n_ : Int) : Str :=
  lt (cond (n_ == 0) true (cond (decide (55296 ≤ n_)) (decide (n_ ≤ 57343)) false)) fun x3 =>
  cond (cond x3 true (decide (1114111 < n_))) (
  r02_lost) (
  cond (decide (n_ < 128)) (
  toB ([wu8 n_] : List Int)) (
  cond (decide (n_ < 2048)) (
  lt (toB ([wu8 (w64 (192 + (w64 (Int.tdiv n_ 64)))), wu8 (w64 (128 + (Int.tmod n_ 64)))] : List Int)) fun x26 =>
  x26) (
  cond (decide (n_ < 65536)) (
  lt (wu8 (w64 (224 + (w64 (Int.tdiv n_ 4096))))) fun x31 =>
  lt (w64 (128 + (Int.tmod (w64 (Int.tdiv n_ 64)) 64))) fun x32 =>
  lt (toB ([x31, wu8 x32, wu8 (w64 (128 + (Int.tmod n_ 64)))] : List Int)) fun x39 =>
  x39) (
  lt (wu8 (w64 (240 + (w64 (Int.tdiv n_ 262144))))) fun x42 =>
  lt (w64 (128 + (Int.tmod (w64 (Int.tdiv n_ 4096)) 64))) fun x43 =>
  lt (w64 (128 + (Int.tmod (w64 (Int.tdiv n_ 64)) 64))) fun x44 =>
  lt (toB ([x42, wu8 x43, wu8 x44, wu8 (w64 (128 + (Int.tmod n_ 64)))] : List Int)) fun x51 =>
  x51))))
theorem r02_UTF8_w  (M : Av) (n_ : Int) (r : Str) (hm : r02_UTF8 n_ = r) (w : World) (hS : S0 M [] w) : Calls Tryd.prog 51 ⟨[.int .i64 n_]⟩ w (fun e w' => ∃ v, e = .returned v ∧ v = .string ⟨⟨r⟩⟩ ∧ SH M (fpl []) w [] w') := by
  rw [r02_UTF8] at hm
  have hS0 : SH M (fpl []) w [] w := hS
  generalize hX : fpl [] = X at hS0 ⊢
  clear hS hX
  have hS := hS0
  clear hS0
  refine calls_entryP Tryd.func51 rfl Tryd.ntmps51 rfl fun _ H => ?_
  refine s_reg [] [0] [(0, [], .int .i64 n_)] [] H (by kernel_rfl) trivial fun _ wd1 H2 hb => ?_
  clear H
  replace hS := hS.below hb
  clear hb
  refine w_seq ?_
  obtain ⟨x3, hx3, hm⟩ := letE hm
  refine s_reg [] [0, 16] [(0, [], .int .i64 n_), (16, [], .bool (cond x3 true (decide (1114111 < n_))))] [] H2 (by subst hx3; kernel_rfl) trivial fun _ wd4 H5 hb => ?_
  clear H2
  replace hS := hS.below hb
  clear hb
  refine w_if H5 rfl (fun hc => ?_) (fun hc => ?_)
  · replace hm := bT hc hm
    refine s_reg [(.string ⟨⟨r02_lost⟩⟩)] [2] [(2, [], .string ⟨⟨r02_lost⟩⟩)] [fun wz => RetB Tryd.prog 48 ⟨[]⟩ (.string ⟨⟨r02_lost⟩⟩) wz] H5 (by kernel_rfl) ⟨((r02_lost_ok ).b), trivial⟩ fun _ wd6 H7 hb => ?_
    clear H5
    replace hS := hS.below hb
    clear hb
    refine w_ret ?_
    subst hm
    exact retR1 H7 rfl rfl ⟨_, rfl, rfl, (hS.sel [] rfl)⟩
  · replace hm := bF hc hm
    refine w_skip ?_
    refine w_seq ?_
    refine s_reg [] [0, 19] [(0, [], .int .i64 n_), (19, [], .bool (decide (n_ < 128)))] [] H5 (by kernel_rfl) trivial fun _ wd8 H9 hb => ?_
    clear H5
    replace hS := hS.below hb
    clear hb
    refine w_if H9 rfl (fun hc => ?_) (fun hc => ?_)
    · replace hm := bT hc hm
      refine w_seq ?_
      refine wl_start ?_
      refine wl_batch 0 2 [] [21] [(21, [], .int .u8 (wu8 n_))] [] H9 (by decide) (by kernel_rfl) trivial fun _ wd10 H11 hb => ?_
      clear H9
      replace hS := hS.below hb
      clear hb
      have hd : S0 (AvL M []) [] _ := hS.hand [] [] rfl rfl
      refine m_stp [22] [] H11 rfl rfl rfl rfl (o_lit (T := (tI .u8)) (E := 5) (zv := .int .u8 0) [.int .u8 (wu8 n_)] ([wu8 n_] : List Int) [gL []] _ H11 hd rfl (by kernel_rfl) (by kernel_rfl) (by kernel_rfl) (by kernel_rfl) (by kernel_rfl) (by kernel_rfl) (by kernel_rfl) rfl (InnL.cons trivial InnL.nil)) (fun _ => rfl) fun _ wd14 v H15 hq => ?_
      clear H11 hd
      obtain ⟨g12, rfl, hq⟩ := hq
      replace hS : SH M X w [Ent.own 5 (tI .u8) ([wu8 n_] : List Int) g12] _ := hS.join [] [] rfl rfl hq
      clear hq
      refine wl_batch 3 5 [(.string ⟨⟨toB ([wu8 n_] : List Int)⟩⟩)] [2] [(2, [], .string ⟨⟨toB ([wu8 n_] : List Int)⟩⟩)] [fun wz => ∀ w', Below wz.heap.size wz w' → (convert 47 9 (.slice g12.a 1 g12.c)).run Tryd.prog w' = .ok (.string ⟨⟨toB ([wu8 n_] : List Int)⟩⟩) w'] H15 (by decide) (by kernel_rfl) ⟨(conv_slG (E := 5) (by kernel_rfl) (by kernel_rfl) (by kernel_rfl) (hS.osl 0 rfl)), trivial⟩ fun _ wd16 H17 hb => ?_
      clear H15
      replace hS := hS.below hb
      clear hb
      refine wl_end rfl ?_
      replace hS : SH M X w [] _ := hS.sel [] rfl
      refine w_ret ?_
      subst hm
      exact retR1 H17 rfl rfl ⟨_, rfl, rfl, (hS.sel [] rfl)⟩
    · replace hm := bF hc hm
      refine w_skip ?_
      refine w_seq ?_
      refine s_reg [] [0, 25] [(0, [], .int .i64 n_), (25, [], .bool (decide (n_ < 2048)))] [] H9 (by kernel_rfl) trivial fun _ wd18 H19 hb => ?_
      clear H9
      replace hS := hS.below hb
      clear hb
      refine w_if H19 rfl (fun hc => ?_) (fun hc => ?_)
      · replace hm := bT hc hm
        refine w_seq ?_
        refine wl_start ?_
        refine wl_batch 0 8 [] [29, 33] [(29, [], .int .u8 (wu8 (w64 (192 + (w64 (Int.tdiv n_ 64)))))), (33, [], .int .u8 (wu8 (w64 (128 + (Int.tmod n_ 64)))))] [fun _ => (64 : Int) ≠ 0, fun _ => (64 : Int) ≠ 0] H19 (by decide) (by kernel_rfl) ⟨(by show (64 : Int) ≠ 0; decide), (by show (64 : Int) ≠ 0; decide), trivial⟩ fun _ wd20 H21 hb => ?_
        clear H19
        replace hS := hS.below hb
        clear hb
        have hd : S0 (AvL M []) [] _ := hS.hand [] [] rfl rfl
        refine m_stp [34] [] H21 rfl rfl rfl rfl (o_lit (T := (tI .u8)) (E := 5) (zv := .int .u8 0) [.int .u8 (wu8 (w64 (192 + (w64 (Int.tdiv n_ 64))))), .int .u8 (wu8 (w64 (128 + (Int.tmod n_ 64))))] ([wu8 (w64 (192 + (w64 (Int.tdiv n_ 64)))), wu8 (w64 (128 + (Int.tmod n_ 64)))] : List Int) [gL [], gL []] _ H21 hd rfl (by kernel_rfl) (by kernel_rfl) (by kernel_rfl) (by kernel_rfl) (by kernel_rfl) (by kernel_rfl) (by kernel_rfl) rfl (InnL.cons trivial (InnL.cons trivial InnL.nil))) (fun _ => rfl) fun _ wd24 v H25 hq => ?_
        clear H21 hd
        obtain ⟨g22, rfl, hq⟩ := hq
        replace hS : SH M X w [Ent.own 5 (tI .u8) ([wu8 (w64 (192 + (w64 (Int.tdiv n_ 64)))), wu8 (w64 (128 + (Int.tmod n_ 64)))] : List Int) g22] _ := hS.join [] [] rfl rfl hq
        clear hq
        obtain ⟨x26, hx26, hm⟩ := letE hm
        refine wl_batch 9 11 [(.string ⟨⟨toB ([wu8 (w64 (192 + (w64 (Int.tdiv n_ 64)))), wu8 (w64 (128 + (Int.tmod n_ 64)))] : List Int)⟩⟩)] [2] [(2, [], .string ⟨⟨x26⟩⟩)] [fun wz => ∀ w', Below wz.heap.size wz w' → (convert 47 9 (.slice g22.a 2 g22.c)).run Tryd.prog w' = .ok (.string ⟨⟨toB ([wu8 (w64 (192 + (w64 (Int.tdiv n_ 64)))), wu8 (w64 (128 + (Int.tmod n_ 64)))] : List Int)⟩⟩) w'] H25 (by decide) (by subst hx26; kernel_rfl) ⟨(conv_slG (E := 5) (by kernel_rfl) (by kernel_rfl) (by kernel_rfl) (hS.osl 0 rfl)), trivial⟩ fun _ wd27 H28 hb => ?_
        clear H25
        replace hS := hS.below hb
        clear hb
        refine wl_end rfl ?_
        replace hS : SH M X w [] _ := hS.sel [] rfl
        refine w_ret ?_
        subst hm
        exact retR1 H28 rfl rfl ⟨_, rfl, rfl, (hS.sel [] rfl)⟩
      · replace hm := bF hc hm
        refine w_skip ?_
        refine w_seq ?_
        refine s_reg [] [0, 37] [(0, [], .int .i64 n_), (37, [], .bool (decide (n_ < 65536)))] [] H19 (by kernel_rfl) trivial fun _ wd29 H30 hb => ?_
        clear H19
        replace hS := hS.below hb
        clear hb
        refine w_if H30 rfl (fun hc => ?_) (fun hc => ?_)
        · replace hm := bT hc hm
          refine w_seq ?_
          refine wl_start ?_
          obtain ⟨x31, hx31, hm⟩ := letE hm
          obtain ⟨x32, hx32, hm⟩ := letE hm
          refine wl_batch 0 13 [] [41, 46, 50] [(41, [], .int .u8 x31), (46, [], .int .u8 (wu8 x32)), (50, [], .int .u8 (wu8 (w64 (128 + (Int.tmod n_ 64)))))] [fun _ => (4096 : Int) ≠ 0, fun _ => (64 : Int) ≠ 0, fun _ => (64 : Int) ≠ 0, fun _ => (64 : Int) ≠ 0] H30 (by decide) (by subst hx31 hx32; kernel_rfl) ⟨(by show (4096 : Int) ≠ 0; decide), (by show (64 : Int) ≠ 0; decide), (by show (64 : Int) ≠ 0; decide), (by show (64 : Int) ≠ 0; decide), trivial⟩ fun _ wd33 H34 hb => ?_
          clear H30
          replace hS := hS.below hb
          clear hb
          have hd : S0 (AvL M []) [] _ := hS.hand [] [] rfl rfl
          refine m_stp [51] [] H34 rfl rfl rfl rfl (o_lit (T := (tI .u8)) (E := 5) (zv := .int .u8 0) [.int .u8 x31, .int .u8 (wu8 x32), .int .u8 (wu8 (w64 (128 + (Int.tmod n_ 64))))] ([x31, wu8 x32, wu8 (w64 (128 + (Int.tmod n_ 64)))] : List Int) [gL [], gL [], gL []] _ H34 hd rfl (by kernel_rfl) (by kernel_rfl) (by kernel_rfl) (by kernel_rfl) (by kernel_rfl) (by kernel_rfl) (by kernel_rfl) rfl (InnL.cons trivial (InnL.cons trivial (InnL.cons trivial InnL.nil)))) (fun _ => rfl) fun _ wd37 v H38 hq => ?_
          clear H34 hd
          obtain ⟨g35, rfl, hq⟩ := hq
          replace hS : SH M X w [Ent.own 5 (tI .u8) ([x31, wu8 x32, wu8 (w64 (128 + (Int.tmod n_ 64)))] : List Int) g35] _ := hS.join [] [] rfl rfl hq
          clear hq
          obtain ⟨x39, hx39, hm⟩ := letE hm
          refine wl_batch 14 16 [(.string ⟨⟨toB ([x31, wu8 x32, wu8 (w64 (128 + (Int.tmod n_ 64)))] : List Int)⟩⟩)] [2] [(2, [], .string ⟨⟨x39⟩⟩)] [fun wz => ∀ w', Below wz.heap.size wz w' → (convert 47 9 (.slice g35.a 3 g35.c)).run Tryd.prog w' = .ok (.string ⟨⟨toB ([x31, wu8 x32, wu8 (w64 (128 + (Int.tmod n_ 64)))] : List Int)⟩⟩) w'] H38 (by decide) (by subst hx39; kernel_rfl) ⟨(conv_slG (E := 5) (by kernel_rfl) (by kernel_rfl) (by kernel_rfl) (hS.osl 0 rfl)), trivial⟩ fun _ wd40 H41 hb => ?_
          clear H38
          replace hS := hS.below hb
          clear hb
          refine wl_end rfl ?_
          replace hS : SH M X w [] _ := hS.sel [] rfl
          refine w_ret ?_
          subst hm
          exact retR1 H41 rfl rfl ⟨_, rfl, rfl, (hS.sel [] rfl)⟩
        · replace hm := bF hc hm
          refine w_skip ?_
          refine w_seq ?_
          refine wl_start ?_
          obtain ⟨x42, hx42, hm⟩ := letE hm
          obtain ⟨x43, hx43, hm⟩ := letE hm
          obtain ⟨x44, hx44, hm⟩ := letE hm
          refine wl_batch 0 18 [] [56, 61, 66, 70] [(56, [], .int .u8 x42), (61, [], .int .u8 (wu8 x43)), (66, [], .int .u8 (wu8 x44)), (70, [], .int .u8 (wu8 (w64 (128 + (Int.tmod n_ 64)))))] [fun _ => (262144 : Int) ≠ 0, fun _ => (4096 : Int) ≠ 0, fun _ => (64 : Int) ≠ 0, fun _ => (64 : Int) ≠ 0, fun _ => (64 : Int) ≠ 0, fun _ => (64 : Int) ≠ 0] H30 (by decide) (by subst hx42 hx43 hx44; kernel_rfl) ⟨(by show (262144 : Int) ≠ 0; decide), (by show (4096 : Int) ≠ 0; decide), (by show (64 : Int) ≠ 0; decide), (by show (64 : Int) ≠ 0; decide), (by show (64 : Int) ≠ 0; decide), (by show (64 : Int) ≠ 0; decide), trivial⟩ fun _ wd45 H46 hb => ?_
          clear H30
          replace hS := hS.below hb
          clear hb
          have hd : S0 (AvL M []) [] _ := hS.hand [] [] rfl rfl
          refine m_stp [71] [] H46 rfl rfl rfl rfl (o_lit (T := (tI .u8)) (E := 5) (zv := .int .u8 0) [.int .u8 x42, .int .u8 (wu8 x43), .int .u8 (wu8 x44), .int .u8 (wu8 (w64 (128 + (Int.tmod n_ 64))))] ([x42, wu8 x43, wu8 x44, wu8 (w64 (128 + (Int.tmod n_ 64)))] : List Int) [gL [], gL [], gL [], gL []] _ H46 hd rfl (by kernel_rfl) (by kernel_rfl) (by kernel_rfl) (by kernel_rfl) (by kernel_rfl) (by kernel_rfl) (by kernel_rfl) rfl (InnL.cons trivial (InnL.cons trivial (InnL.cons trivial (InnL.cons trivial InnL.nil))))) (fun _ => rfl) fun _ wd49 v H50 hq => ?_
          clear H46 hd
          obtain ⟨g47, rfl, hq⟩ := hq
          replace hS : SH M X w [Ent.own 5 (tI .u8) ([x42, wu8 x43, wu8 x44, wu8 (w64 (128 + (Int.tmod n_ 64)))] : List Int) g47] _ := hS.join [] [] rfl rfl hq
          clear hq
          obtain ⟨x51, hx51, hm⟩ := letE hm
          refine wl_batch 19 21 [(.string ⟨⟨toB ([x42, wu8 x43, wu8 x44, wu8 (w64 (128 + (Int.tmod n_ 64)))] : List Int)⟩⟩)] [2] [(2, [], .string ⟨⟨x51⟩⟩)] [fun wz => ∀ w', Below wz.heap.size wz w' → (convert 47 9 (.slice g47.a 4 g47.c)).run Tryd.prog w' = .ok (.string ⟨⟨toB ([x42, wu8 x43, wu8 x44, wu8 (w64 (128 + (Int.tmod n_ 64)))] : List Int)⟩⟩) w'] H50 (by decide) (by subst hx51; kernel_rfl) ⟨(conv_slG (E := 5) (by kernel_rfl) (by kernel_rfl) (by kernel_rfl) (hS.osl 0 rfl)), trivial⟩ fun _ wd52 H53 hb => ?_
          clear H50
          replace hS := hS.below hb
          clear hb
          refine wl_end rfl ?_
          replace hS : SH M X w [] _ := hS.sel [] rfl
          refine w_ret ?_
          subst hm
          exact retR1 H53 rfl rfl ⟨_, rfl, rfl, (hS.sel [] rfl)⟩
theorem r02_UTF8_ok  (n_ : Int) : Ret Tryd.prog 51 ⟨[.int .i64 n_]⟩ (.string ⟨⟨(r02_UTF8 n_)⟩⟩) := retP_of (Tryd.call51 _) (fun w h => r02_UTF8_w F0   n_ _ rfl w h)

def r02_Escaped_L1 (m : Nat) (s : Str) (i : Int) : Nat → Int → Int → Option (Int × Int)
  | 0, _, _ => none
  | kk + 1, v20, v21 =>
    lt (cond (decide (v21 < (ln s))) (decide (v21 < (w64 ((w64 (i + 1)) + 6)))) false) fun x22 =>
    chk (x22 = true → 0 ≤ v21 ∧ v21 < ln s) <|
    lt (cond x22 (decide (0 ≤ (r02_Hex (bat s v21)))) false) fun x24 =>
    cond x24 (
    chk (0 ≤ v21 ∧ v21 < ln s) <|
    lt (w64 ((w64 (16 * v20)) + (r02_Hex (bat s v21)))) fun x28 =>
    r02_Escaped_L1 m s i kk x28 (w64 (v21 + 1))) (
    some (v20, v21))
def r02_Escaped (m : Nat) (s : Str) (i : Int) : Option (Str × Int) :=
  cond (decide ((ln s) ≤ (w64 (i + 1)))) (
  some (r02_lost, w64 (i + 1))) (
  chk (0 ≤ (w64 (i + 1)) ∧ (w64 (i + 1)) < ln s) <|
  lt (decide ((r02_Hex (bat s (w64 (i + 1)))) < 0)) fun x10 =>
  cond x10 (
  chk (0 ≤ (w64 (i + 1)) ∧ (w64 (i + 1)) ≤ (w64 ((w64 (i + 1)) + 1)) ∧ (w64 ((w64 (i + 1)) + 1)) ≤ ln s) <|
  lt (sub s (w64 (i + 1)) (w64 ((w64 (i + 1)) + 1))) fun x14 =>
  some (x14, w64 ((w64 (i + 1)) + 1))) (
  Option.bind (
  r02_Escaped_L1 m s i m 0 (w64 (i + 1))) fun (z19 : Int × Int) =>
  Option.bind (
  Option.bind (r02_At s z19.2) fun y35 =>
  cond (r02_Space y35) (
  some (w64 (z19.2 + 1))) (
  some z19.2)) fun (z34 : Int) =>
  some ((r02_UTF8 z19.1), z34)))
theorem r02_Escaped_w  (M : Av) (m : Nat) (s : Str) (i : Int) (r : Str × Int) (hm : r02_Escaped m s i = some r) (w : World) (hS : S0 M [] w) : Calls Tryd.prog 34 ⟨[.string ⟨⟨s⟩⟩, .int .i64 i]⟩ w (fun e w' => ∃ v, e = .returned v ∧ v = .tuple ⟨[.string ⟨⟨r.1⟩⟩, .int .i64 r.2]⟩ ∧ SH M (fpl []) w [] w') := by
  rw [r02_Escaped] at hm
  have hS0 : SH M (fpl []) w [] w := hS
  generalize hX : fpl [] = X at hS0 ⊢
  clear hS hX
  have hS := hS0
  clear hS0
  refine calls_entryP Tryd.func34 rfl Tryd.ntmps34 rfl fun _ H => ?_
  refine s_reg [] [0, 1] [(0, [], .string ⟨⟨s⟩⟩), (1, [], .int .i64 i)] [] H (by kernel_rfl) trivial fun _ wd1 H2 hb => ?_
  clear H
  replace hS := hS.below hb
  clear hb
  refine s_reg [] [0, 1] [(0, [], .string ⟨⟨s⟩⟩), (1, [], .int .i64 (w64 (i + 1)))] [] H2 (by kernel_rfl) trivial fun _ wd3 H4 hb => ?_
  clear H2
  replace hS := hS.below hb
  clear hb
  refine w_seq ?_
  refine s_reg [] [0, 1, 13] [(0, [], .string ⟨⟨s⟩⟩), (1, [], .int .i64 (w64 (i + 1))), (13, [], .bool (decide ((ln s) ≤ (w64 (i + 1)))))] [] H4 (by kernel_rfl) trivial fun _ wd5 H6 hb => ?_
  clear H4
  replace hS := hS.below hb
  clear hb
  refine w_if H6 rfl (fun hc => ?_) (fun hc => ?_)
  · replace hm := bT hc hm
    refine s_reg [(.string ⟨⟨r02_lost⟩⟩)] [4, 5] [(4, [], .string ⟨⟨r02_lost⟩⟩), (5, [], .int .i64 (w64 (i + 1)))] [fun wz => RetB Tryd.prog 48 ⟨[]⟩ (.string ⟨⟨r02_lost⟩⟩) wz] H6 (by kernel_rfl) ⟨((r02_lost_ok ).b), trivial⟩ fun _ wd7 H8 hb => ?_
    clear H6
    replace hS := hS.below hb
    clear hb
    refine w_ret ?_
    obtain rfl := someE hm
    exact retR2 H8 rfl rfl rfl ⟨_, rfl, rfl, (hS.sel [] rfl)⟩
  · replace hm := bF hc hm
    refine w_skip ?_
    refine w_seq ?_
    obtain ⟨ho9, hm⟩ := chkE hm
    obtain ⟨x10, hx10, hm⟩ := letE hm
    refine s_reg [(.int .i64 (r02_Hex (bat s (w64 (i + 1)))))] [0, 1, 20] [(0, [], .string ⟨⟨s⟩⟩), (1, [], .int .i64 (w64 (i + 1))), (20, [], .bool x10)] [fun _ => 0 ≤ (w64 (i + 1)) ∧ (w64 (i + 1)) < ln s, fun wz => RetB Tryd.prog 49 ⟨[.int .u8 (bat s (w64 (i + 1)))]⟩ (.int .i64 (r02_Hex (bat s (w64 (i + 1))))) wz] H6 (by subst hx10; kernel_rfl) ⟨ho9, ((r02_Hex_ok _).b), trivial⟩ fun _ wd11 H12 hb => ?_
    clear H6
    replace hS := hS.below hb
    clear hb
    refine w_if H12 rfl (fun hc => ?_) (fun hc => ?_)
    · replace hm := bT hc hm
      obtain ⟨ho13, hm⟩ := chkE hm
      obtain ⟨x14, hx14, hm⟩ := letE hm
      refine s_reg [] [4, 5] [(4, [], .string ⟨⟨x14⟩⟩), (5, [], .int .i64 (w64 ((w64 (i + 1)) + 1)))] [fun _ => 0 ≤ (w64 (i + 1)) ∧ (w64 (i + 1)) ≤ (w64 ((w64 (i + 1)) + 1)) ∧ (w64 ((w64 (i + 1)) + 1)) ≤ ln s] H12 (by subst hx14; kernel_rfl) ⟨ho13, trivial⟩ fun _ wd15 H16 hb => ?_
      clear H12
      replace hS := hS.below hb
      clear hb
      refine w_ret ?_
      obtain rfl := someE hm
      exact retR2 H16 rfl rfl rfl ⟨_, rfl, rfl, (hS.sel [] rfl)⟩
    · replace hm := bF hc hm
      refine w_skip ?_
      refine s_reg [] [0, 1, 6, 7] [(0, [], .string ⟨⟨s⟩⟩), (1, [], .int .i64 (w64 (i + 1))), (6, [], .int .i64 0), (7, [], .int .i64 (w64 (i + 1)))] [] H12 (by kernel_rfl) trivial fun _ wd17 H18 hb => ?_
      clear H12
      replace hS := hS.below hb
      clear hb
      obtain ⟨z19, hz, hm⟩ := bindE hm
      refine w_cut (fun a' w' => Fr 64 [(0, [], .string ⟨⟨s⟩⟩), (6, [], .int .i64 z19.1), (7, [], .int .i64 z19.2)] a' ∧ SH M X w [] w') ?_ ?_
      · replace hm := hz
        refine w_block ?_
        refine w_loop (fun kk a' w' => ∃ (v20 : Int) (v21 : Int), r02_Escaped_L1 m s i kk v20 v21 = some _ ∧ Fr 64 [(0, [], .string ⟨⟨s⟩⟩), (1, [], .int .i64 (w64 (i + 1))), (6, [], .int .i64 v20), (7, [], .int .i64 v21)] a' ∧ SH M X w [] w') ⟨_, 0, w64 (i + 1), hm, Fr.keep (ks := [0, 1, 6, 7]) H18 (by kernel_rfl), hS⟩ ?_
        clear hm H18 hS
        rintro kk _ wd33 ⟨v20, v21, hm, H, hS⟩
        cases kk with
        | zero => exact noneE hm
        | succ kk =>
          rw [r02_Escaped_L1] at hm
          refine w_seq ?_
          obtain ⟨x22, hx22, hm⟩ := letE hm
          obtain ⟨ho23, hm⟩ := chkE hm
          obtain ⟨x24, hx24, hm⟩ := letE hm
          refine s_reg [(.int .i64 (r02_Hex (bat s v21)))] [0, 1, 6, 7, 45] [(0, [], .string ⟨⟨s⟩⟩), (1, [], .int .i64 (w64 (i + 1))), (6, [], .int .i64 v20), (7, [], .int .i64 v21), (45, [], .bool x24)] [fun _ => (x22 = true ∧ True → 0 ≤ v21 ∧ v21 < ln s), fun wz => (x22 = true ∧ True → RetB Tryd.prog 49 ⟨[.int .u8 (bat s v21)]⟩ (.int .i64 (r02_Hex (bat s v21))) wz)] H (by subst hx22 hx24; kernel_rfl) ⟨fun hg => (ho23 hg.1), fun hg => (r02_Hex_ok _).b, trivial⟩ fun _ wd25 H26 hb => ?_
          clear H
          replace hS := hS.below hb
          clear hb
          refine w_if H26 rfl (fun hc => ?_) (fun hc => ?_)
          · replace hm := bT hc hm
            refine w_skip ?_
            refine w_block ?_
            obtain ⟨ho27, hm⟩ := chkE hm
            obtain ⟨x28, hx28, hm⟩ := letE hm
            refine s_reg [(.int .i64 (r02_Hex (bat s v21)))] [0, 1, 6, 7] [(0, [], .string ⟨⟨s⟩⟩), (1, [], .int .i64 (w64 (i + 1))), (6, [], .int .i64 x28), (7, [], .int .i64 v21)] [fun _ => 0 ≤ v21 ∧ v21 < ln s, fun wz => RetB Tryd.prog 49 ⟨[.int .u8 (bat s v21)]⟩ (.int .i64 (r02_Hex (bat s v21))) wz] H26 (by subst hx28; kernel_rfl) ⟨ho27, ((r02_Hex_ok _).b), trivial⟩ fun _ wd29 H30 hb => ?_
            clear H26
            replace hS := hS.below hb
            clear hb
            refine w_reg [] [0, 1, 6, 7] [(0, [], .string ⟨⟨s⟩⟩), (1, [], .int .i64 (w64 (i + 1))), (6, [], .int .i64 x28), (7, [], .int .i64 (w64 (v21 + 1)))] [] H30 (by kernel_rfl) trivial fun _ wd31 H32 hb => ?_
            clear H30
            replace hS := hS.below hb
            clear hb
            exact ⟨_, Nat.lt_succ_self _, x28, w64 (v21 + 1), hm, Fr.keep (ks := [0, 1, 6, 7]) H32 (by kernel_rfl), hS⟩
          · replace hm := bF hc hm
            refine w_exit rfl ?_
            obtain rfl := someE hm
            exact ⟨Fr.keep (ks := [0, 6, 7]) H26 (by kernel_rfl), hS⟩
      · rintro _ wd43 ⟨H, hS⟩
        obtain ⟨z34, hz, hm⟩ := bindE hm
        refine w_cut (fun a' w' => Fr 64 [(6, [], .int .i64 z19.1), (7, [], .int .i64 z34)] a' ∧ SH M X w [] w') ?_ ?_
        · replace hm := hz
          obtain ⟨y35, hy35, hm⟩ := bindE hm
          refine s_reg [(.int .u8 y35), (.bool (r02_Space y35))] [6, 7, 58] [(6, [], .int .i64 z19.1), (7, [], .int .i64 z19.2), (58, [], .bool (r02_Space y35))] [fun wz => RetB Tryd.prog 24 ⟨[.string ⟨⟨s⟩⟩, .int .i64 z19.2]⟩ (.int .u8 y35) wz, fun wz => RetB Tryd.prog 50 ⟨[.int .u8 y35]⟩ (.bool (r02_Space y35)) wz] H (by kernel_rfl) ⟨((r02_At_ok _ _ _ hy35).b), ((r02_Space_ok _).b), trivial⟩ fun _ wd36 H37 hb => ?_
          clear H
          replace hS := hS.below hb
          clear hb
          refine w_if H37 rfl (fun hc => ?_) (fun hc => ?_)
          · replace hm := bT hc hm
            refine w_reg [] [6, 7] [(6, [], .int .i64 z19.1), (7, [], .int .i64 (w64 (z19.2 + 1)))] [] H37 (by kernel_rfl) trivial fun _ wd38 H39 hb => ?_
            clear H37
            replace hS := hS.below hb
            clear hb
            obtain rfl := someE hm
            exact ⟨Fr.keep (ks := [6, 7]) H39 (by kernel_rfl), hS⟩
          · replace hm := bF hc hm
            refine w_skip ?_
            obtain rfl := someE hm
            exact ⟨Fr.keep (ks := [6, 7]) H37 (by kernel_rfl), hS⟩
        · rintro _ wd42 ⟨H, hS⟩
          refine s_reg [(.string ⟨⟨(r02_UTF8 z19.1)⟩⟩)] [4, 5] [(4, [], .string ⟨⟨(r02_UTF8 z19.1)⟩⟩), (5, [], .int .i64 z34)] [fun wz => RetB Tryd.prog 51 ⟨[.int .i64 z19.1]⟩ (.string ⟨⟨(r02_UTF8 z19.1)⟩⟩) wz] H (by kernel_rfl) ⟨((r02_UTF8_ok _).b), trivial⟩ fun _ wd40 H41 hb => ?_
          clear H
          replace hS := hS.below hb
          clear hb
          refine w_ret ?_
          obtain rfl := someE hm
          exact retR2 H41 rfl rfl rfl ⟨_, rfl, rfl, (hS.sel [] rfl)⟩
theorem r02_Escaped_ok  (m : Nat) (s : Str) (i : Int) (r : Str × Int) (hm : r02_Escaped m s i = some r) : Ret Tryd.prog 34 ⟨[.string ⟨⟨s⟩⟩, .int .i64 i]⟩ (.tuple ⟨[.string ⟨⟨r.1⟩⟩, .int .i64 r.2]⟩) := retP_of (Tryd.call34 _) (fun w h => r02_Escaped_w F0 m   s i r hm w h)

def r02_Named_L1 (m : Nat) (s : Str) : Nat → Int → Str → Option (Str × Int)
  | 0, _, _ => none
  | kk + 1, v5, v6 =>
    chk ((decide (v5 < (ln s))) = true → 0 ≤ v5 ∧ v5 < ln s) <|
    lt (cond (decide (v5 < (ln s))) (r02_Letter (bat s v5)) false) fun x8 =>
    cond x8 (
    chk (0 ≤ v5 ∧ v5 ≤ (w64 (v5 + 1)) ∧ (w64 (v5 + 1)) ≤ ln s) <|
    chk (ln v6 + ln (sub s v5 (w64 (v5 + 1))) ≤ 9223372036854775807) <|
    r02_Named_L1 m s kk (w64 (v5 + 1)) (v6 ++ (sub s v5 (w64 (v5 + 1))))) (
    Option.bind (cond (decide (v5 < (ln s))) (r02_Escape s v5) (some default)) fun y17 =>
    cond (cond (decide (v5 < (ln s))) y17 false) (
    Option.bind (r02_Escaped m s v5) fun y20 =>
    chk (ln v6 + ln y20.1 ≤ 9223372036854775807) <|
    r02_Named_L1 m s kk y20.2 (v6 ++ y20.1)) (
    some (v6, v5)))
def r02_Named (m : Nat) (s : Str) (i : Int) : Option (Str × Int) :=
  r02_Named_L1 m s m i []
theorem r02_Named_w  (M : Av) (m : Nat) (s : Str) (i : Int) (r : Str × Int) (hm : r02_Named m s i = some r) (w : World) (hS : S0 M [] w) : Calls Tryd.prog 17 ⟨[.string ⟨⟨s⟩⟩, .int .i64 i]⟩ w (fun e w' => ∃ v, e = .returned v ∧ v = .tuple ⟨[.string ⟨⟨r.1⟩⟩, .int .i64 r.2]⟩ ∧ SH M (fpl []) w [] w') := by
  rw [r02_Named] at hm
  have hS0 : SH M (fpl []) w [] w := hS
  generalize hX : fpl [] = X at hS0 ⊢
  clear hS hX
  have hS := hS0
  clear hS0
  refine calls_entryP Tryd.func17 rfl Tryd.ntmps17 rfl fun _ H => ?_
  refine s_reg [] [0, 1] [(0, [], .string ⟨⟨s⟩⟩), (1, [], .int .i64 i)] [] H (by kernel_rfl) trivial fun _ wd1 H2 hb => ?_
  clear H
  replace hS := hS.below hb
  clear hb
  refine s_reg [] [0, 1, 6] [(0, [], .string ⟨⟨s⟩⟩), (1, [], .int .i64 i), (6, [], .string ⟨⟨[]⟩⟩)] [] H2 (by kernel_rfl) trivial fun _ wd3 H4 hb => ?_
  clear H2
  replace hS := hS.below hb
  clear hb
  refine w_block ?_
  refine w_loop (fun kk a' w' => ∃ (v5 : Int) (v6 : Str), r02_Named_L1 m s kk v5 v6 = some _ ∧ Fr 49 [(0, [], .string ⟨⟨s⟩⟩), (1, [], .int .i64 v5), (6, [], .string ⟨⟨v6⟩⟩)] a' ∧ SH M X w [] w') ⟨_, i, [], hm, Fr.keep (ks := [0, 1, 6]) H4 (by kernel_rfl), hS⟩ ?_
  clear hm H4 hS
  rintro kk _ wd30 ⟨v5, v6, hm, H, hS⟩
  cases kk with
  | zero => exact noneE hm
  | succ kk =>
    rw [r02_Named_L1] at hm
    refine w_block ?_
    obtain ⟨ho7, hm⟩ := chkE hm
    obtain ⟨x8, hx8, hm⟩ := letE hm
    refine s_reg [(.bool (r02_Letter (bat s v5)))] [0, 1, 6, 18] [(0, [], .string ⟨⟨s⟩⟩), (1, [], .int .i64 v5), (6, [], .string ⟨⟨v6⟩⟩), (18, [], .bool x8)] [fun _ => ((decide (v5 < (ln s))) = true ∧ True → 0 ≤ v5 ∧ v5 < ln s), fun wz => ((decide (v5 < (ln s))) = true ∧ True → RetB Tryd.prog 33 ⟨[.int .u8 (bat s v5)]⟩ (.bool (r02_Letter (bat s v5))) wz)] H (by subst hx8; kernel_rfl) ⟨fun hg => (ho7 hg.1), fun hg => (r02_Letter_ok _).b, trivial⟩ fun _ wd9 H10 hb => ?_
    clear H
    replace hS := hS.below hb
    clear hb
    refine w_if H10 rfl (fun hc => ?_) (fun hc => ?_)
    · replace hm := bT hc hm
      obtain ⟨ho11, hm⟩ := chkE hm
      obtain ⟨ho12, hm⟩ := chkE hm
      refine s_reg [] [0, 1, 6] [(0, [], .string ⟨⟨s⟩⟩), (1, [], .int .i64 v5), (6, [], .string ⟨⟨v6 ++ (sub s v5 (w64 (v5 + 1)))⟩⟩)] [fun _ => 0 ≤ v5 ∧ v5 ≤ (w64 (v5 + 1)) ∧ (w64 (v5 + 1)) ≤ ln s, fun _ => ln v6 + ln (sub s v5 (w64 (v5 + 1))) ≤ 9223372036854775807] H10 (by kernel_rfl) ⟨ho11, ho12, trivial⟩ fun _ wd13 H14 hb => ?_
      clear H10
      replace hS := hS.below hb
      clear hb
      refine w_reg [] [0, 1, 6] [(0, [], .string ⟨⟨s⟩⟩), (1, [], .int .i64 (w64 (v5 + 1))), (6, [], .string ⟨⟨v6 ++ (sub s v5 (w64 (v5 + 1)))⟩⟩)] [] H14 (by kernel_rfl) trivial fun _ wd15 H16 hb => ?_
      clear H14
      replace hS := hS.below hb
      clear hb
      exact ⟨_, Nat.lt_succ_self _, w64 (v5 + 1), v6 ++ (sub s v5 (w64 (v5 + 1))), hm, Fr.keep (ks := [0, 1, 6]) H16 (by kernel_rfl), hS⟩
    · replace hm := bF hc hm
      obtain ⟨y17, hy17, hm⟩ := bindE hm
      refine s_reg [(.bool y17)] [0, 1, 6, 36] [(0, [], .string ⟨⟨s⟩⟩), (1, [], .int .i64 v5), (6, [], .string ⟨⟨v6⟩⟩), (36, [], .bool (cond (decide (v5 < (ln s))) y17 false))] [fun wz => ((decide (v5 < (ln s))) = true ∧ True → RetB Tryd.prog 32 ⟨[.string ⟨⟨s⟩⟩, .int .i64 v5]⟩ (.bool y17) wz)] H10 (by kernel_rfl) ⟨fun hg => (r02_Escape_ok _ _ _ (bT (hg.1) hy17)).b, trivial⟩ fun _ wd18 H19 hb => ?_
      clear H10
      replace hS := hS.below hb
      clear hb
      refine w_if H19 rfl (fun hc => ?_) (fun hc => ?_)
      · replace hm := bT hc hm
        obtain ⟨y20, hy20, hm⟩ := bindE hm
        refine s_reg [(.tuple ⟨[.string ⟨⟨y20.1⟩⟩, .int .i64 y20.2]⟩)] [0, 6, 7, 8] [(0, [], .string ⟨⟨s⟩⟩), (6, [], .string ⟨⟨v6⟩⟩), (7, [], .string ⟨⟨y20.1⟩⟩), (8, [], .int .i64 y20.2)] [fun wz => RetB Tryd.prog 34 ⟨[.string ⟨⟨s⟩⟩, .int .i64 v5]⟩ (.tuple ⟨[.string ⟨⟨y20.1⟩⟩, .int .i64 y20.2]⟩) wz] H19 (by kernel_rfl) ⟨((r02_Escaped_ok m _ _ _ hy20).b), trivial⟩ fun _ wd21 H22 hb => ?_
        clear H19
        replace hS := hS.below hb
        clear hb
        obtain ⟨ho23, hm⟩ := chkE hm
        refine s_reg [] [0, 6, 8] [(0, [], .string ⟨⟨s⟩⟩), (6, [], .string ⟨⟨v6 ++ y20.1⟩⟩), (8, [], .int .i64 y20.2)] [fun _ => ln v6 + ln y20.1 ≤ 9223372036854775807] H22 (by kernel_rfl) ⟨ho23, trivial⟩ fun _ wd24 H25 hb => ?_
        clear H22
        replace hS := hS.below hb
        clear hb
        refine w_reg [] [0, 1, 6] [(0, [], .string ⟨⟨s⟩⟩), (1, [], .int .i64 y20.2), (6, [], .string ⟨⟨v6 ++ y20.1⟩⟩)] [] H25 (by kernel_rfl) trivial fun _ wd26 H27 hb => ?_
        clear H25
        replace hS := hS.below hb
        clear hb
        exact ⟨_, Nat.lt_succ_self _, y20.2, v6 ++ y20.1, hm, Fr.keep (ks := [0, 1, 6]) H27 (by kernel_rfl), hS⟩
      · replace hm := bF hc hm
        refine s_reg [] [4, 5] [(4, [], .string ⟨⟨v6⟩⟩), (5, [], .int .i64 v5)] [] H19 (by kernel_rfl) trivial fun _ wd28 H29 hb => ?_
        clear H19
        replace hS := hS.below hb
        clear hb
        refine w_ret ?_
        obtain rfl := someE hm
        exact retR2 H29 rfl rfl rfl ⟨_, rfl, rfl, (hS.sel [] rfl)⟩
theorem r02_Named_ok  (m : Nat) (s : Str) (i : Int) (r : Str × Int) (hm : r02_Named m s i = some r) : Ret Tryd.prog 17 ⟨[.string ⟨⟨s⟩⟩, .int .i64 i]⟩ (.tuple ⟨[.string ⟨⟨r.1⟩⟩, .int .i64 r.2]⟩) := retP_of (Tryd.call17 _) (fun w h => r02_Named_w F0 m   s i r hm w h)

def r02_Name (m : Nat) (s : Str) : Option (Str × Int) :=
  cond (decide (4000 < (ln s))) (
  some ([], 28)) (
  Option.bind (r02_NameAt s 0) fun y7 =>
  cond (!y7) (
  some ([], 12)) (
  Option.bind (r02_Named m s 0) fun y12 =>
  cond (y12.2 != (ln s)) (
  some ([], 12)) (
  some (y12.1, 0))))
theorem r02_Name_w  (M : Av) (m : Nat) (s : Str) (r : Str × Int) (hm : r02_Name m s = some r) (w : World) (hS : S0 M [] w) : Calls Tryd.prog 7 ⟨[.string ⟨⟨s⟩⟩]⟩ w (fun e w' => ∃ v, e = .returned v ∧ v = .tuple ⟨[.string ⟨⟨r.1⟩⟩, .int .i64 r.2]⟩ ∧ SH M (fpl []) w [] w') := by
  rw [r02_Name] at hm
  have hS0 : SH M (fpl []) w [] w := hS
  generalize hX : fpl [] = X at hS0 ⊢
  clear hS hX
  have hS := hS0
  clear hS0
  refine calls_entryP Tryd.func7 rfl Tryd.ntmps7 rfl fun _ H => ?_
  refine s_reg [] [0] [(0, [], .string ⟨⟨s⟩⟩)] [] H (by kernel_rfl) trivial fun _ wd1 H2 hb => ?_
  clear H
  replace hS := hS.below hb
  clear hb
  refine w_seq ?_
  refine s_reg [] [0, 8] [(0, [], .string ⟨⟨s⟩⟩), (8, [], .bool (decide (4000 < (ln s))))] [] H2 (by kernel_rfl) trivial fun _ wd3 H4 hb => ?_
  clear H2
  replace hS := hS.below hb
  clear hb
  refine w_if H4 rfl (fun hc => ?_) (fun hc => ?_)
  · replace hm := bT hc hm
    refine s_reg [] [2, 3] [(2, [], .string ⟨⟨[]⟩⟩), (3, [], .int .i64 28)] [] H4 (by kernel_rfl) trivial fun _ wd5 H6 hb => ?_
    clear H4
    replace hS := hS.below hb
    clear hb
    refine w_ret ?_
    obtain rfl := someE hm
    exact retR2 H6 rfl rfl rfl ⟨_, rfl, rfl, (hS.sel [] rfl)⟩
  · replace hm := bF hc hm
    refine w_skip ?_
    refine w_seq ?_
    obtain ⟨y7, hy7, hm⟩ := bindE hm
    refine s_reg [(.bool y7)] [0, 11] [(0, [], .string ⟨⟨s⟩⟩), (11, [], .bool (!y7))] [fun wz => RetB Tryd.prog 16 ⟨[.string ⟨⟨s⟩⟩, .int .i64 0]⟩ (.bool y7) wz] H4 (by kernel_rfl) ⟨((r02_NameAt_ok _ _ _ hy7).b), trivial⟩ fun _ wd8 H9 hb => ?_
    clear H4
    replace hS := hS.below hb
    clear hb
    refine w_if H9 rfl (fun hc => ?_) (fun hc => ?_)
    · replace hm := bT hc hm
      refine s_reg [] [2, 3] [(2, [], .string ⟨⟨[]⟩⟩), (3, [], .int .i64 12)] [] H9 (by kernel_rfl) trivial fun _ wd10 H11 hb => ?_
      clear H9
      replace hS := hS.below hb
      clear hb
      refine w_ret ?_
      obtain rfl := someE hm
      exact retR2 H11 rfl rfl rfl ⟨_, rfl, rfl, (hS.sel [] rfl)⟩
    · replace hm := bF hc hm
      refine w_skip ?_
      obtain ⟨y12, hy12, hm⟩ := bindE hm
      refine s_reg [(.tuple ⟨[.string ⟨⟨y12.1⟩⟩, .int .i64 y12.2]⟩)] [0, 4, 5] [(0, [], .string ⟨⟨s⟩⟩), (4, [], .string ⟨⟨y12.1⟩⟩), (5, [], .int .i64 y12.2)] [fun wz => RetB Tryd.prog 17 ⟨[.string ⟨⟨s⟩⟩, .int .i64 0]⟩ (.tuple ⟨[.string ⟨⟨y12.1⟩⟩, .int .i64 y12.2]⟩) wz] H9 (by kernel_rfl) ⟨((r02_Named_ok m _ _ _ hy12).b), trivial⟩ fun _ wd13 H14 hb => ?_
      clear H9
      replace hS := hS.below hb
      clear hb
      refine w_seq ?_
      refine s_reg [] [4, 20] [(4, [], .string ⟨⟨y12.1⟩⟩), (20, [], .bool (y12.2 != (ln s)))] [] H14 (by kernel_rfl) trivial fun _ wd15 H16 hb => ?_
      clear H14
      replace hS := hS.below hb
      clear hb
      refine w_if H16 rfl (fun hc => ?_) (fun hc => ?_)
      · replace hm := bT hc hm
        refine s_reg [] [2, 3] [(2, [], .string ⟨⟨[]⟩⟩), (3, [], .int .i64 12)] [] H16 (by kernel_rfl) trivial fun _ wd17 H18 hb => ?_
        clear H16
        replace hS := hS.below hb
        clear hb
        refine w_ret ?_
        obtain rfl := someE hm
        exact retR2 H18 rfl rfl rfl ⟨_, rfl, rfl, (hS.sel [] rfl)⟩
      · replace hm := bF hc hm
        refine w_skip ?_
        refine s_reg [] [2, 3] [(2, [], .string ⟨⟨y12.1⟩⟩), (3, [], .int .i64 0)] [] H16 (by kernel_rfl) trivial fun _ wd19 H20 hb => ?_
        clear H16
        replace hS := hS.below hb
        clear hb
        refine w_ret ?_
        obtain rfl := someE hm
        exact retR2 H20 rfl rfl rfl ⟨_, rfl, rfl, (hS.sel [] rfl)⟩
theorem r02_Name_ok  (m : Nat) (s : Str) (r : Str × Int) (hm : r02_Name m s = some r) : Ret Tryd.prog 7 ⟨[.string ⟨⟨s⟩⟩]⟩ (.tuple ⟨[.string ⟨⟨r.1⟩⟩, .int .i64 r.2]⟩) := retP_of (Tryd.call7 _) (fun w h => r02_Name_w F0 m   s r hm w h)

def law02_TokenValues (m : Nat) (s : Str) : Option (Bool) :=
  lt (cond (decide (500 < (ln s))) (decide ((ln s) ≤ 4000)) false) fun x3 =>
  cond (cond x3 true (decide (4100 < (ln s)))) (
  some true) (
  Option.bind (token_Value m s) fun y8 =>
  Option.bind (r02_Value m s) fun y11 =>
  Option.bind (token_Name m s) fun y14 =>
  Option.bind (r02_Name m s) fun y17 =>
  lt (cond (y8.1 == y11.1) (y8.2.1 == y11.2.1) false) fun x20 =>
  lt (cond (cond x20 (y8.2.2 == y11.2.2) false) (y14.1 == y17.1) false) fun x21 =>
  some (cond x21 (y14.2 == y17.2) false))
theorem law02_TokenValues_w  (M : Av) (m : Nat) (s : Str) (r : Bool) (hm : law02_TokenValues m s = some r) (w : World) (hS : S0 M [] w) : Calls Tryd.prog 3 ⟨[.string ⟨⟨s⟩⟩]⟩ w (fun e w' => ∃ v, e = .returned v ∧ v = .bool r ∧ SH M (fpl []) w [] w') := by
  rw [law02_TokenValues] at hm
  have hS0 : SH M (fpl []) w [] w := hS
  generalize hX : fpl [] = X at hS0 ⊢
  clear hS hX
  have hS := hS0
  clear hS0
  refine calls_entryP Tryd.func3 rfl Tryd.ntmps3 rfl fun _ H => ?_
  refine s_reg [] [0] [(0, [], .string ⟨⟨s⟩⟩)] [] H (by kernel_rfl) trivial fun _ wd1 H2 hb => ?_
  clear H
  replace hS := hS.below hb
  clear hb
  refine w_seq ?_
  obtain ⟨x3, hx3, hm⟩ := letE hm
  refine s_reg [] [0, 25] [(0, [], .string ⟨⟨s⟩⟩), (25, [], .bool (cond x3 true (decide (4100 < (ln s)))))] [] H2 (by subst hx3; kernel_rfl) trivial fun _ wd4 H5 hb => ?_
  clear H2
  replace hS := hS.below hb
  clear hb
  refine w_if H5 rfl (fun hc => ?_) (fun hc => ?_)
  · replace hm := bT hc hm
    refine s_reg [] [2] [(2, [], .bool true)] [] H5 (by kernel_rfl) trivial fun _ wd6 H7 hb => ?_
    clear H5
    replace hS := hS.below hb
    clear hb
    refine w_ret ?_
    obtain rfl := someE hm
    exact retR1 H7 rfl rfl ⟨_, rfl, rfl, (hS.sel [] rfl)⟩
  · replace hm := bF hc hm
    refine w_skip ?_
    obtain ⟨y8, hy8, hm⟩ := bindE hm
    refine s_reg [(.tuple ⟨[.int .i64 y8.1, .bool y8.2.1, .int .i64 y8.2.2]⟩)] [0, 3, 4, 5] [(0, [], .string ⟨⟨s⟩⟩), (3, [], .int .i64 y8.1), (4, [], .bool y8.2.1), (5, [], .int .i64 y8.2.2)] [fun wz => RetB Tryd.prog 4 ⟨[.string ⟨⟨s⟩⟩]⟩ (.tuple ⟨[.int .i64 y8.1, .bool y8.2.1, .int .i64 y8.2.2]⟩) wz] H5 (by kernel_rfl) ⟨((token_Value_ok m _ _ hy8).b), trivial⟩ fun _ wd9 H10 hb => ?_
    clear H5
    replace hS := hS.below hb
    clear hb
    obtain ⟨y11, hy11, hm⟩ := bindE hm
    refine s_reg [(.tuple ⟨[.int .i64 y11.1, .bool y11.2.1, .int .i64 y11.2.2]⟩)] [0, 3, 4, 5, 6, 7, 8] [(0, [], .string ⟨⟨s⟩⟩), (3, [], .int .i64 y8.1), (4, [], .bool y8.2.1), (5, [], .int .i64 y8.2.2), (6, [], .int .i64 y11.1), (7, [], .bool y11.2.1), (8, [], .int .i64 y11.2.2)] [fun wz => RetB Tryd.prog 5 ⟨[.string ⟨⟨s⟩⟩]⟩ (.tuple ⟨[.int .i64 y11.1, .bool y11.2.1, .int .i64 y11.2.2]⟩) wz] H10 (by kernel_rfl) ⟨((r02_Value_ok m _ _ hy11).b), trivial⟩ fun _ wd12 H13 hb => ?_
    clear H10
    replace hS := hS.below hb
    clear hb
    obtain ⟨y14, hy14, hm⟩ := bindE hm
    refine s_reg [(.tuple ⟨[.string ⟨⟨y14.1⟩⟩, .int .i64 y14.2]⟩)] [0, 3, 4, 5, 6, 7, 8, 9, 10] [(0, [], .string ⟨⟨s⟩⟩), (3, [], .int .i64 y8.1), (4, [], .bool y8.2.1), (5, [], .int .i64 y8.2.2), (6, [], .int .i64 y11.1), (7, [], .bool y11.2.1), (8, [], .int .i64 y11.2.2), (9, [], .string ⟨⟨y14.1⟩⟩), (10, [], .int .i64 y14.2)] [fun wz => RetB Tryd.prog 6 ⟨[.string ⟨⟨s⟩⟩]⟩ (.tuple ⟨[.string ⟨⟨y14.1⟩⟩, .int .i64 y14.2]⟩) wz] H13 (by kernel_rfl) ⟨((token_Name_ok m _ _ hy14).b), trivial⟩ fun _ wd15 H16 hb => ?_
    clear H13
    replace hS := hS.below hb
    clear hb
    obtain ⟨y17, hy17, hm⟩ := bindE hm
    refine s_reg [(.tuple ⟨[.string ⟨⟨y17.1⟩⟩, .int .i64 y17.2]⟩)] [3, 4, 5, 6, 7, 8, 9, 10, 11, 12] [(3, [], .int .i64 y8.1), (4, [], .bool y8.2.1), (5, [], .int .i64 y8.2.2), (6, [], .int .i64 y11.1), (7, [], .bool y11.2.1), (8, [], .int .i64 y11.2.2), (9, [], .string ⟨⟨y14.1⟩⟩), (10, [], .int .i64 y14.2), (11, [], .string ⟨⟨y17.1⟩⟩), (12, [], .int .i64 y17.2)] [fun wz => RetB Tryd.prog 7 ⟨[.string ⟨⟨s⟩⟩]⟩ (.tuple ⟨[.string ⟨⟨y17.1⟩⟩, .int .i64 y17.2]⟩) wz] H16 (by kernel_rfl) ⟨((r02_Name_ok m _ _ hy17).b), trivial⟩ fun _ wd18 H19 hb => ?_
    clear H16
    replace hS := hS.below hb
    clear hb
    obtain ⟨x20, hx20, hm⟩ := letE hm
    obtain ⟨x21, hx21, hm⟩ := letE hm
    refine s_reg [] [2] [(2, [], .bool (cond x21 (y14.2 == y17.2) false))] [] H19 (by subst hx20 hx21; kernel_rfl) trivial fun _ wd22 H23 hb => ?_
    clear H19
    replace hS := hS.below hb
    clear hb
    refine w_ret ?_
    obtain rfl := someE hm
    exact retR1 H23 rfl rfl ⟨_, rfl, rfl, (hS.sel [] rfl)⟩
theorem law02_TokenValues_ok  (m : Nat) (s : Str) (r : Bool) (hm : law02_TokenValues m s = some r) : Ret Tryd.prog 3 ⟨[.string ⟨⟨s⟩⟩]⟩ (.bool r) := retP_of (Tryd.call3 _) (fun w h => law02_TokenValues_w F0 m   s r hm w h)

end Go.Proofs.YtfancfogkhclfaaDoor
