/-
  What the Go functions compute, as Lean functions, and that a call returns just that. Printed by a program.
-/
import Derived.Test.YtihckkbhieblkaaRows
import Derived.Test.YtihckkbhieblkaaCL
import Derived.Test.YtihckkbhieblkaaCA
set_option linter.unusedVariables false
set_option maxRecDepth 20000
set_option maxHeartbeats 4000000
namespace Go.Proofs.Ytihckkbhieblkaa
open Go.V Go.RowKit
def r01_Great (s : Str) : Bool :=
  lt (cond (decide (500 < (ln s))) (decide ((ln s) ≤ 4000)) false) fun x3 =>
  cond x3 true (decide (12100 < (ln s)))
theorem r01_Great_w  (M : Av) (s : Str) (r : Bool) (hm : r01_Great s = r) (w : World) (hS : S0 M [] w) : Calls Try.prog 15 ⟨[.string ⟨⟨s⟩⟩]⟩ w (fun e w' => ∃ v, e = .returned v ∧ v = .bool r ∧ SH M (fpl []) w [] w') := by
 rw [r01_Great] at hm
 have hS0 : SH M (fpl []) w [] w := hS
 generalize hX : fpl [] = X at hS0 ⊢
 clear hS hX
 have hS := hS0
 clear hS0
 refine calls_entryP Try.func15 rfl Try.ntmps15 rfl fun _ H => ?_
 refine s_reg [] [0] [(0, [], .string ⟨⟨s⟩⟩)] [] H (by kernel_rfl) trivial fun _ wd1 H2 hb => ?_
 clear H
 replace hS := hS.below hb
 clear hb
 obtain ⟨x3, hx3, hm⟩ := letE hm
 refine s_reg [] [2] [(2, [], .bool (cond x3 true (decide (12100 < (ln s)))))] [] H2 (by subst hx3; kernel_rfl) trivial fun _ wd4 H5 hb => ?_
 clear H2
 replace hS := hS.below hb
 clear hb
 refine w_ret ?_
 subst hm
 exact retR1 H5 rfl rfl ⟨_, rfl, rfl, (hS.sel [] rfl)⟩
theorem r01_Great_ok  (s : Str) : Ret Try.prog 15 ⟨[.string ⟨⟨s⟩⟩]⟩ (.bool (r01_Great s)) := retP_of (Try.call15 _) (fun w h => r01_Great_w F0   s _ rfl w h)

def r01_Cleaned_L1 (m : Nat) (s : Str) : Nat → Str → Int → Option (Str)
  | 0, _, _ => none
  | kk + 1, v8, v9 =>
    cond (decide (v9 < (ln s))) (
    Option.bind (
    chk (0 ≤ v9 ∧ v9 < ln s) <|
    lt (cond ((bat s v9) == 10) (decide (0 < v9)) false) fun x16 =>
    chk (x16 = true → 0 ≤ (w64 (v9 - 1)) ∧ (w64 (v9 - 1)) < ln s) <|
    lt (cond x16 ((bat s (w64 (v9 - 1))) == 13) false) fun x18 =>
    cond x18 (
    some v8) (
    Option.bind (
    lt (cond ((bat s v9) == 13) true ((bat s v9) == 12)) fun x22 =>
    cond x22 (
    some 10) (
    some (bat s v9))) fun (z21 : Int) =>
    cond (z21 == 0) (
    chk (ln v8 + ln (toB ([239, 191, 189] : List Int)) ≤ 9223372036854775807) <|
    some (v8 ++ (toB ([239, 191, 189] : List Int)))) (
    chk (ln v8 + ln (toB ([z21] : List Int)) ≤ 9223372036854775807) <|
    some (v8 ++ (toB ([z21] : List Int)))))) fun (z12 : Str) =>
    r01_Cleaned_L1 m s kk z12 (w64 (v9 + 1))) (
    some v8)
def r01_Cleaned (m : Nat) (s : Str) : Option (Str) :=
  Option.bind (
  r01_Cleaned_L1 m s m [] 0) fun (z5 : Str) =>
  some z5
theorem r01_Cleaned_w  (M : Av) (m : Nat) (s : Str) (r : Str) (hm : r01_Cleaned m s = some r) (w : World) (hS : S0 M [] w) : Calls Try.prog 28 ⟨[.string ⟨⟨s⟩⟩]⟩ w (fun e w' => ∃ v, e = .returned v ∧ v = .string ⟨⟨r⟩⟩ ∧ SH M (fpl []) w [] w') := by
 rw [r01_Cleaned] at hm
 have hS0 : SH M (fpl []) w [] w := hS
 generalize hX : fpl [] = X at hS0 ⊢
 clear hS hX
 have hS := hS0
 clear hS0
 refine calls_entryP Try.func28 rfl Try.ntmps28 rfl fun _ H => ?_
 refine s_reg [] [0] [(0, [], .string ⟨⟨s⟩⟩)] [] H (by kernel_rfl) trivial fun _ wd1 H2 hb => ?_
 clear H
 replace hS := hS.below hb
 clear hb
 refine s_reg [] [0, 3] [(0, [], .string ⟨⟨s⟩⟩), (3, [], .string ⟨⟨[]⟩⟩)] [] H2 (by kernel_rfl) trivial fun _ wd3 H4 hb => ?_
 clear H2
 replace hS := hS.below hb
 clear hb
 obtain ⟨z5, hz, hm⟩ := bindE hm
 refine w_cut (fun a' w' => Fr 46 [(3, [], .string ⟨⟨z5⟩⟩)] a' ∧ SH M X w [] w') ?_ ?_
 ·replace hm := hz
  refine s_reg [] [0, 3, 4] [(0, [], .string ⟨⟨s⟩⟩), (3, [], .string ⟨⟨[]⟩⟩), (4, [], .int .i64 0)] [] H4 (by kernel_rfl) trivial fun _ wd6 H7 hb => ?_
  clear H4
  replace hS := hS.below hb
  clear hb
  refine w_block ?_
  refine w_loop (fun kk a' w' => ∃ (v8 : Str) (v9 : Int), r01_Cleaned_L1 m s kk v8 v9 = some _ ∧ Fr 46 [(0, [], .string ⟨⟨s⟩⟩), (3, [], .string ⟨⟨v8⟩⟩), (4, [], .int .i64 v9)] a' ∧ SH M X w [] w') ⟨_, [], 0, hm, FrG.keep (ks := [0, 3, 4]) H7 (by kernel_rfl), hS⟩ ?_
  clear hm H7 hS
  rintro kk _ wd55 ⟨v8, v9, hm, H, hS⟩
  cases kk with
  | zero => exact noneE hm
  | succ kk =>
   rw [r01_Cleaned_L1] at hm
   refine w_seq ?_
   refine s_reg [] [0, 3, 4, 9] [(0, [], .string ⟨⟨s⟩⟩), (3, [], .string ⟨⟨v8⟩⟩), (4, [], .int .i64 v9), (9, [], .bool (decide (v9 < (ln s))))] [] H (by kernel_rfl) trivial fun _ wd10 H11 hb => ?_
   clear H
   replace hS := hS.below hb
   clear hb
   refine w_if H11 rfl (fun hc => ?_) (fun hc => ?c54)
   case c54 =>
    replace hm := bF hc hm
    refine w_exit rfl ?_
    obtain rfl := someE hm
    exact ⟨FrG.keep (ks := [3]) H11 (by kernel_rfl), hS⟩
   replace hm := bT hc hm
   refine w_skip ?_
   obtain ⟨z12, hz, hm⟩ := bindE hm
   refine w_cut (fun a' w' => Fr 46 [(0, [], .string ⟨⟨s⟩⟩), (4, [], .int .i64 v9), (3, [], .string ⟨⟨z12⟩⟩)] a' ∧ SH M X w [] w') ?_ ?_
   ·replace hm := hz
    refine w_block ?_
    obtain ⟨ho13, hm⟩ := chkE hm
    refine s_reg [] [0, 3, 4, 5] [(0, [], .string ⟨⟨s⟩⟩), (3, [], .string ⟨⟨v8⟩⟩), (4, [], .int .i64 v9), (5, [], .int .u8 (bat s v9))] [fun _ => 0 ≤ v9 ∧ v9 < ln s] H11 (by kernel_rfl) ⟨ho13, trivial⟩ fun _ wd14 H15 hb => ?_
    clear H11
    replace hS := hS.below hb
    clear hb
    refine w_seq ?_
    obtain ⟨x16, hx16, hm⟩ := letE hm
    obtain ⟨ho17, hm⟩ := chkE hm
    obtain ⟨x18, hx18, hm⟩ := letE hm
    refine s_reg [] [0, 3, 4, 5, 27] [(0, [], .string ⟨⟨s⟩⟩), (3, [], .string ⟨⟨v8⟩⟩), (4, [], .int .i64 v9), (5, [], .int .u8 (bat s v9)), (27, [], .bool x18)] [fun _ => (x16 = true ∧ True → 0 ≤ (w64 (v9 - 1)) ∧ (w64 (v9 - 1)) < ln s)] H15 (by subst hx16 hx18; kernel_rfl) ⟨fun hg => (ho17 hg.1), trivial⟩ fun _ wd19 H20 hb => ?_
    clear H15
    replace hS := hS.below hb
    clear hb
    refine w_if H20 rfl (fun hc => ?c50) (fun hc => ?_)
    case c50 =>
     replace hm := bT hc hm
     refine w_exit rfl ?_
     obtain rfl := someE hm
     exact ⟨FrG.keep (ks := [0, 4, 3]) H20 (by kernel_rfl), hS⟩
    replace hm := bF hc hm
    refine w_skip ?_
    obtain ⟨z21, hz, hm⟩ := bindE hm
    refine w_cut (fun a' w' => Fr 46 [(0, [], .string ⟨⟨s⟩⟩), (3, [], .string ⟨⟨v8⟩⟩), (4, [], .int .i64 v9), (5, [], .int .u8 z21)] a' ∧ SH M X w [] w') ?_ ?_
    ·replace hm := hz
     obtain ⟨x22, hx22, hm⟩ := letE hm
     refine s_reg [] [0, 3, 4, 5, 33] [(0, [], .string ⟨⟨s⟩⟩), (3, [], .string ⟨⟨v8⟩⟩), (4, [], .int .i64 v9), (5, [], .int .u8 (bat s v9)), (33, [], .bool x22)] [] H20 (by subst hx22; kernel_rfl) trivial fun _ wd23 H24 hb => ?_
     clear H20
     replace hS := hS.below hb
     clear hb
     refine w_if H24 rfl (fun hc => ?_) (fun hc => ?c27)
     case c27 =>
      replace hm := bF hc hm
      refine w_skip ?_
      obtain rfl := someE hm
      exact ⟨FrG.keep (ks := [0, 3, 4, 5]) H24 (by kernel_rfl), hS⟩
     replace hm := bT hc hm
     refine w_reg [] [0, 3, 4, 5] [(0, [], .string ⟨⟨s⟩⟩), (3, [], .string ⟨⟨v8⟩⟩), (4, [], .int .i64 v9), (5, [], .int .u8 10)] [] H24 (by kernel_rfl) trivial fun _ wd25 H26 hb => ?_
     clear H24
     replace hS := hS.below hb
     clear hb
     obtain rfl := someE hm
     exact ⟨FrG.keep (ks := [0, 3, 4, 5]) H26 (by kernel_rfl), hS⟩
    ·rintro _ wd49 ⟨H, hS⟩
     refine s_reg [] [0, 3, 4, 5, 35] [(0, [], .string ⟨⟨s⟩⟩), (3, [], .string ⟨⟨v8⟩⟩), (4, [], .int .i64 v9), (5, [], .int .u8 z21), (35, [], .bool (z21 == 0))] [] H (by kernel_rfl) trivial fun _ wd28 H29 hb => ?_
     clear H
     replace hS := hS.below hb
     clear hb
     refine w_if H29 rfl (fun hc => ?_) (fun hc => ?c48)
     case c48 =>
      replace hm := bF hc hm
      refine wl_start ?_
      refine wl_batch 0 2 [] [0, 4, 40, 41] [(0, [], .string ⟨⟨s⟩⟩), (4, [], .int .i64 v9), (40, [], .string ⟨⟨v8⟩⟩), (41, [], .int .u8 z21)] [] H29 (by decide) (by kernel_rfl) trivial fun _ wd39 H40 hb => ?_
      clear H29
      replace hS := hS.below hb
      clear hb
      have hd := hS.hand [] [] rfl rfl
      refine m_stp [42, 0, 4, 40] [(0, [], .string ⟨⟨s⟩⟩), (4, [], .int .i64 v9), (40, [], .string ⟨⟨v8⟩⟩)] H40 rfl rfl rfl rfl (o_lit (T := (tI .u8)) (E := 5) (zv := .int .u8 0) [.int .u8 z21] ([z21] : List Int) [gL []] _ H40 hd rfl (by kernel_rfl) (by kernel_rfl) (by kernel_rfl) (by kernel_rfl) (by kernel_rfl) (by kernel_rfl) (by kernel_rfl) rfl (InnL.cons trivial InnL.nil)) (fun _ => rfl) fun _ wd43 v H44 hq => ?_
      clear H40 hd
      obtain ⟨g41, rfl, hq⟩ := hq
      replace hS : SH M X w [Ent.own 5 (tI .u8) ([z21] : List Int) g41] _ := hS.join [] [] rfl rfl hq
      clear hq
      obtain ⟨ho45, hm⟩ := chkE hm
      refine wl_batch 3 6 [(.string ⟨⟨toB ([z21] : List Int)⟩⟩)] [0, 3, 4] [(0, [], .string ⟨⟨s⟩⟩), (3, [], .string ⟨⟨v8 ++ (toB ([z21] : List Int))⟩⟩), (4, [], .int .i64 v9)] [fun wz => ∀ w', Below wz.heap.size wz w' → (convert 41 9 (.slice g41.a 1 g41.c)).run Try.prog w' = .ok (.string ⟨⟨toB ([z21] : List Int)⟩⟩) w', fun _ => ln v8 + ln (toB ([z21] : List Int)) ≤ 9223372036854775807] H44 (by decide) (by kernel_rfl) ⟨(conv_slG (E := 5) (by kernel_rfl) (by kernel_rfl) (by kernel_rfl) (hS.osl 0 rfl)), ho45, trivial⟩ fun _ wd46 H47 hb => ?_
      clear H44
      replace hS := hS.below hb
      clear hb
      refine wl_end rfl ?_
      replace hS : SH M X w [] _ := hS.sel [] rfl
      obtain rfl := someE hm
      exact ⟨FrG.keep (ks := [0, 4, 3]) H47 (by kernel_rfl), hS⟩
     replace hm := bT hc hm
     refine wl_start ?_
     refine wl_batch 0 1 [] [0, 4, 36] [(0, [], .string ⟨⟨s⟩⟩), (4, [], .int .i64 v9), (36, [], .string ⟨⟨v8⟩⟩)] [] H29 (by decide) (by kernel_rfl) trivial fun _ wd30 H31 hb => ?_
     clear H29
     replace hS := hS.below hb
     clear hb
     have hd := hS.hand [] [] rfl rfl
     refine m_stp [37, 0, 4, 36] [(0, [], .string ⟨⟨s⟩⟩), (4, [], .int .i64 v9), (36, [], .string ⟨⟨v8⟩⟩)] H31 rfl rfl rfl rfl (o_lit (T := (tI .u8)) (E := 5) (zv := .int .u8 0) [.int .u8 239, .int .u8 191, .int .u8 189] ([239, 191, 189] : List Int) [gL [], gL [], gL []] _ H31 hd rfl (by kernel_rfl) (by kernel_rfl) (by kernel_rfl) (by kernel_rfl) (by kernel_rfl) (by kernel_rfl) (by kernel_rfl) rfl (InnL.cons trivial (InnL.cons trivial (InnL.cons trivial InnL.nil)))) (fun _ => rfl) fun _ wd34 v H35 hq => ?_
     clear H31 hd
     obtain ⟨g32, rfl, hq⟩ := hq
     replace hS : SH M X w [Ent.own 5 (tI .u8) ([239, 191, 189] : List Int) g32] _ := hS.join [] [] rfl rfl hq
     clear hq
     obtain ⟨ho36, hm⟩ := chkE hm
     refine wl_batch 2 5 [(.string ⟨⟨toB ([239, 191, 189] : List Int)⟩⟩)] [0, 3, 4] [(0, [], .string ⟨⟨s⟩⟩), (3, [], .string ⟨⟨v8 ++ (toB ([239, 191, 189] : List Int))⟩⟩), (4, [], .int .i64 v9)] [fun wz => ∀ w', Below wz.heap.size wz w' → (convert 41 9 (.slice g32.a 3 g32.c)).run Try.prog w' = .ok (.string ⟨⟨toB ([239, 191, 189] : List Int)⟩⟩) w', fun _ => ln v8 + ln (toB ([239, 191, 189] : List Int)) ≤ 9223372036854775807] H35 (by decide) (by kernel_rfl) ⟨(conv_slG (E := 5) (by kernel_rfl) (by kernel_rfl) (by kernel_rfl) (hS.osl 0 rfl)), ho36, trivial⟩ fun _ wd37 H38 hb => ?_
     clear H35
     replace hS := hS.below hb
     clear hb
     refine wl_end rfl ?_
     replace hS : SH M X w [] _ := hS.sel [] rfl
     obtain rfl := someE hm
     exact ⟨FrG.keep (ks := [0, 4, 3]) H38 (by kernel_rfl), hS⟩
   ·rintro _ wd53 ⟨H, hS⟩
    refine w_reg [] [0, 3, 4] [(0, [], .string ⟨⟨s⟩⟩), (3, [], .string ⟨⟨z12⟩⟩), (4, [], .int .i64 (w64 (v9 + 1)))] [] H (by kernel_rfl) trivial fun _ wd51 H52 hb => ?_
    clear H
    replace hS := hS.below hb
    clear hb
    exact ⟨_, Nat.lt_succ_self _, z12, w64 (v9 + 1), hm, FrG.keep (ks := [0, 3, 4]) H52 (by kernel_rfl), hS⟩
 ·rintro _ wd58 ⟨H, hS⟩
  refine s_reg [] [2] [(2, [], .string ⟨⟨z5⟩⟩)] [] H (by kernel_rfl) trivial fun _ wd56 H57 hb => ?_
  clear H
  replace hS := hS.below hb
  clear hb
  refine w_ret ?_
  obtain rfl := someE hm
  exact retR1 H57 rfl rfl ⟨_, rfl, rfl, (hS.sel [] rfl)⟩
theorem r01_Cleaned_ok  (m : Nat) (s : Str) (r : Str) (hm : r01_Cleaned m s = some r) : Ret Try.prog 28 ⟨[.string ⟨⟨s⟩⟩]⟩ (.string ⟨⟨r⟩⟩) := retP_of (Try.call28 _) (fun w h => r01_Cleaned_w F0 m   s r hm w h)

def r01_Clean (m : Nat) (s : Str) : Option (Str × Int) :=
  cond (decide (4000 < (ln s))) (
  some ([], 28)) (
  Option.bind (r01_Cleaned m s) fun y7 =>
  some (y7, 0))
theorem r01_Clean_w  (M : Av) (m : Nat) (s : Str) (r : Str × Int) (hm : r01_Clean m s = some r) (w : World) (hS : S0 M [] w) : Calls Try.prog 17 ⟨[.string ⟨⟨s⟩⟩]⟩ w (fun e w' => ∃ v, e = .returned v ∧ v = .tuple ⟨[.string ⟨⟨r.1⟩⟩, .int .i64 r.2]⟩ ∧ SH M (fpl []) w [] w') := by
 rw [r01_Clean] at hm
 have hS0 : SH M (fpl []) w [] w := hS
 generalize hX : fpl [] = X at hS0 ⊢
 clear hS hX
 have hS := hS0
 clear hS0
 refine calls_entryP Try.func17 rfl Try.ntmps17 rfl fun _ H => ?_
 refine s_reg [] [0] [(0, [], .string ⟨⟨s⟩⟩)] [] H (by kernel_rfl) trivial fun _ wd1 H2 hb => ?_
 clear H
 replace hS := hS.below hb
 clear hb
 refine w_seq ?_
 refine s_reg [] [0, 6] [(0, [], .string ⟨⟨s⟩⟩), (6, [], .bool (decide (4000 < (ln s))))] [] H2 (by kernel_rfl) trivial fun _ wd3 H4 hb => ?_
 clear H2
 replace hS := hS.below hb
 clear hb
 refine w_if H4 rfl (fun hc => ?c10) (fun hc => ?_)
 case c10 =>
  replace hm := bT hc hm
  refine s_reg [] [2, 3] [(2, [], .string ⟨⟨[]⟩⟩), (3, [], .int .i64 28)] [] H4 (by kernel_rfl) trivial fun _ wd5 H6 hb => ?_
  clear H4
  replace hS := hS.below hb
  clear hb
  refine w_ret ?_
  obtain rfl := someE hm
  exact retR2 H6 rfl rfl rfl ⟨_, rfl, rfl, (hS.sel [] rfl)⟩
 replace hm := bF hc hm
 refine w_skip ?_
 obtain ⟨y7, hy7, hm⟩ := bindE hm
 refine s_reg [(.string ⟨⟨y7⟩⟩)] [2, 3] [(2, [], .string ⟨⟨y7⟩⟩), (3, [], .int .i64 0)] [fun wz => RetB Try.prog 28 ⟨[.string ⟨⟨s⟩⟩]⟩ (.string ⟨⟨y7⟩⟩) wz] H4 (by kernel_rfl) ⟨((r01_Cleaned_ok m _ _ hy7).b), trivial⟩ fun _ wd8 H9 hb => ?_
 clear H4
 replace hS := hS.below hb
 clear hb
 refine w_ret ?_
 obtain rfl := someE hm
 exact retR2 H9 rfl rfl rfl ⟨_, rfl, rfl, (hS.sel [] rfl)⟩
theorem r01_Clean_ok  (m : Nat) (s : Str) (r : Str × Int) (hm : r01_Clean m s = some r) : Ret Try.prog 17 ⟨[.string ⟨⟨s⟩⟩]⟩ (.tuple ⟨[.string ⟨⟨r.1⟩⟩, .int .i64 r.2]⟩) := retP_of (Try.call17 _) (fun w h => r01_Clean_w F0 m   s r hm w h)

def x_strings_ContainsAny (x0 : Str) (x1 : Str) : Option Bool := chk (x1 = [0, 12, 13] ∧ x0.length < 4294967281) (some (Lib.containsAny x0 x1))
theorem x_strings_ContainsAny_ok (x0 : Str) (x1 : Str) (r : Bool) (hm : x_strings_ContainsAny x0 x1 = some r) (w : World) : RetB Try.prog 32 ⟨[.string ⟨⟨x0⟩⟩, .string ⟨⟨x1⟩⟩]⟩ (.bool r) w := by
  obtain ⟨h, hm⟩ := chkE hm
  obtain rfl := someE hm
  exact .inl ⟨Try.call32 _, fun w' _ => (ca_at x0 x1 h w').mono fun e w'' he => ⟨he.1, he.2⟩⟩

def input_Check (s : Str) : Option (Int) :=
  cond (decide (12000 < (ln s))) (
  some 28) (
  Option.bind (x_strings_ContainsAny s [0, 12, 13]) fun y7 =>
  cond y7 (
  some 8) (
  some 0))
theorem input_Check_w  (M : Av) (s : Str) (r : Int) (hm : input_Check s = some r) (w : World) (hS : S0 M [] w) : Calls Try.prog 22 ⟨[.string ⟨⟨s⟩⟩]⟩ w (fun e w' => ∃ v, e = .returned v ∧ v = .int .i64 r ∧ SH M (fpl []) w [] w') := by
 rw [input_Check] at hm
 have hS0 : SH M (fpl []) w [] w := hS
 generalize hX : fpl [] = X at hS0 ⊢
 clear hS hX
 have hS := hS0
 clear hS0
 refine calls_entryP Try.func22 rfl Try.ntmps22 rfl fun _ H => ?_
 refine s_reg [] [0] [(0, [], .string ⟨⟨s⟩⟩)] [] H (by kernel_rfl) trivial fun _ wd1 H2 hb => ?_
 clear H
 replace hS := hS.below hb
 clear hb
 refine w_seq ?_
 refine s_reg [] [0, 5] [(0, [], .string ⟨⟨s⟩⟩), (5, [], .bool (decide (12000 < (ln s))))] [] H2 (by kernel_rfl) trivial fun _ wd3 H4 hb => ?_
 clear H2
 replace hS := hS.below hb
 clear hb
 refine w_if H4 rfl (fun hc => ?c15) (fun hc => ?_)
 case c15 =>
  replace hm := bT hc hm
  refine s_reg [] [2] [(2, [], .int .i64 28)] [] H4 (by kernel_rfl) trivial fun _ wd5 H6 hb => ?_
  clear H4
  replace hS := hS.below hb
  clear hb
  refine w_ret ?_
  obtain rfl := someE hm
  exact retR1 H6 rfl rfl ⟨_, rfl, rfl, (hS.sel [] rfl)⟩
 replace hm := bF hc hm
 refine w_skip ?_
 refine w_seq ?_
 obtain ⟨y7, hy7, hm⟩ := bindE hm
 refine s_reg [(.bool y7)] [7] [(7, [], .bool y7)] [fun wz => RetB Try.prog 32 ⟨[.string ⟨⟨s⟩⟩, .string ⟨⟨[0, 12, 13]⟩⟩]⟩ (.bool y7) wz] H4 (by kernel_rfl) ⟨(x_strings_ContainsAny_ok _ _ _ hy7 _), trivial⟩ fun _ wd8 H9 hb => ?_
 clear H4
 replace hS := hS.below hb
 clear hb
 refine w_if H9 rfl (fun hc => ?c14) (fun hc => ?_)
 case c14 =>
  replace hm := bT hc hm
  refine s_reg [] [2] [(2, [], .int .i64 8)] [] H9 (by kernel_rfl) trivial fun _ wd10 H11 hb => ?_
  clear H9
  replace hS := hS.below hb
  clear hb
  refine w_ret ?_
  obtain rfl := someE hm
  exact retR1 H11 rfl rfl ⟨_, rfl, rfl, (hS.sel [] rfl)⟩
 replace hm := bF hc hm
 refine w_skip ?_
 refine s_reg [] [2] [(2, [], .int .i64 0)] [] H9 (by kernel_rfl) trivial fun _ wd12 H13 hb => ?_
 clear H9
 replace hS := hS.below hb
 clear hb
 refine w_ret ?_
 obtain rfl := someE hm
 exact retR1 H13 rfl rfl ⟨_, rfl, rfl, (hS.sel [] rfl)⟩
theorem input_Check_ok  (s : Str) (r : Int) (hm : input_Check s = some r) : Ret Try.prog 22 ⟨[.string ⟨⟨s⟩⟩]⟩ (.int .i64 r) := retP_of (Try.call22 _) (fun w h => input_Check_w F0   s r hm w h)

theorem nat38 (x0 : Str) (x1 : Int) (w : World) : RetB Try.prog 38 ⟨[.string ⟨⟨x0⟩⟩, .int .u8 x1]⟩ (.int .i64 (nCountByte x0 x1)) w := nat_CountString Try.func38 (by kernel_rfl) rfl (by kernel_rfl) (by kernel_rfl) _ _ w

theorem nat68 (x0 : Str) (x1 : Int) (w : World) : RetB Try.prog 68 ⟨[.string ⟨⟨x0⟩⟩, .int .u8 x1]⟩ (.int .i64 (nIndexByte x0 x1)) w := nat_IndexByteString Try.func68 (by kernel_rfl) rfl (by kernel_rfl) (by kernel_rfl) _ _ w

def stringslite_IndexByte (s : Str) (c_ : Int) : Int :=
  (nIndexByte s c_)
theorem stringslite_IndexByte_w  (M : Av) (s : Str) (c_ : Int) (r : Int) (hm : stringslite_IndexByte s c_ = r) (w : World) (hS : S0 M [] w) : Calls Try.prog 56 ⟨[.string ⟨⟨s⟩⟩, .int .u8 c_]⟩ w (fun e w' => ∃ v, e = .returned v ∧ v = .int .i64 r ∧ SH M (fpl []) w [] w') := by
 rw [stringslite_IndexByte] at hm
 have hS0 : SH M (fpl []) w [] w := hS
 generalize hX : fpl [] = X at hS0 ⊢
 clear hS hX
 have hS := hS0
 clear hS0
 refine calls_entryP Try.func56 rfl Try.ntmps56 rfl fun _ H => ?_
 refine s_reg [] [0, 1] [(0, [], .string ⟨⟨s⟩⟩), (1, [], .int .u8 c_)] [] H (by kernel_rfl) trivial fun _ wd1 H2 hb => ?_
 clear H
 replace hS := hS.below hb
 clear hb
 refine s_reg [(.int .i64 (nIndexByte s c_))] [4] [(4, [], .int .i64 (nIndexByte s c_))] [fun wz => RetB Try.prog 68 ⟨[.string ⟨⟨s⟩⟩, .int .u8 c_]⟩ (.int .i64 (nIndexByte s c_)) wz] H2 (by kernel_rfl) ⟨(nat68 _ _ _), trivial⟩ fun _ wd3 H4 hb => ?_
 clear H2
 replace hS := hS.below hb
 clear hb
 refine w_ret ?_
 subst hm
 exact retR1 H4 rfl rfl ⟨_, rfl, rfl, (hS.sel [] rfl)⟩
theorem stringslite_IndexByte_ok  (s : Str) (c_ : Int) : Ret Try.prog 56 ⟨[.string ⟨⟨s⟩⟩, .int .u8 c_]⟩ (.int .i64 (stringslite_IndexByte s c_)) := retP_of (Try.call56 _) (fun w h => stringslite_IndexByte_w F0   s c_ _ rfl w h)

def stringslite_Index (s : Str) (substr : Str) : Option (Int) :=
  lt (cond ((ln substr) == 0) true (substr == s)) fun x5 =>
  cond x5 (
  some 0) (
  cond ((ln substr) == 1) (
  chk (0 ≤ (0 : Int) ∧ (0 : Int) < ln substr) <|
  some (stringslite_IndexByte s (bat substr 0))) (
  cond (decide ((ln s) ≤ (ln substr))) (
  some (-1)) (
  none)))
theorem stringslite_Index_w  (M : Av) (s : Str) (substr : Str) (r : Int) (hm : stringslite_Index s substr = some r) (w : World) (hS : S0 M [] w) : Calls Try.prog 45 ⟨[.string ⟨⟨s⟩⟩, .string ⟨⟨substr⟩⟩]⟩ w (fun e w' => ∃ v, e = .returned v ∧ v = .int .i64 r ∧ SH M (fpl []) w [] w') := by
 rw [stringslite_Index] at hm
 have hS0 : SH M (fpl []) w [] w := hS
 generalize hX : fpl [] = X at hS0 ⊢
 clear hS hX
 have hS := hS0
 clear hS0
 refine calls_entryP Try.func45 rfl Try.ntmps45 rfl fun _ H => ?_
 refine s_reg [] [0, 1] [(0, [], .string ⟨⟨s⟩⟩), (1, [], .string ⟨⟨substr⟩⟩)] [] H (by kernel_rfl) trivial fun _ wd1 H2 hb => ?_
 clear H
 replace hS := hS.below hb
 clear hb
 refine s_reg [] [0, 1, 5] [(0, [], .string ⟨⟨s⟩⟩), (1, [], .string ⟨⟨substr⟩⟩), (5, [], .int .i64 (ln substr))] [] H2 (by kernel_rfl) trivial fun _ wd3 H4 hb => ?_
 clear H2
 replace hS := hS.below hb
 clear hb
 refine w_seq ?_
 refine w_block ?_
 obtain ⟨x5, hx5, hm⟩ := letE hm
 refine s_reg [] [0, 1, 5, 16] [(0, [], .string ⟨⟨s⟩⟩), (1, [], .string ⟨⟨substr⟩⟩), (5, [], .int .i64 (ln substr)), (16, [], .bool x5)] [] H4 (by subst hx5; kernel_rfl) trivial fun _ wd6 H7 hb => ?_
 clear H4
 replace hS := hS.below hb
 clear hb
 refine w_if H7 rfl (fun hc => ?c21) (fun hc => ?_)
 case c21 =>
  replace hm := bT hc hm
  refine s_reg [] [4] [(4, [], .int .i64 0)] [] H7 (by kernel_rfl) trivial fun _ wd8 H9 hb => ?_
  clear H7
  replace hS := hS.below hb
  clear hb
  refine w_ret ?_
  obtain rfl := someE hm
  exact retR1 H9 rfl rfl ⟨_, rfl, rfl, (hS.sel [] rfl)⟩
 replace hm := bF hc hm
 refine s_reg [] [0, 1, 5, 24] [(0, [], .string ⟨⟨s⟩⟩), (1, [], .string ⟨⟨substr⟩⟩), (5, [], .int .i64 (ln substr)), (24, [], .bool ((ln substr) == 1))] [] H7 (by kernel_rfl) trivial fun _ wd10 H11 hb => ?_
 clear H7
 replace hS := hS.below hb
 clear hb
 refine w_if H11 rfl (fun hc => ?c20) (fun hc => ?_)
 case c20 =>
  replace hm := bT hc hm
  obtain ⟨ho12, hm⟩ := chkE hm
  refine s_reg [(.int .i64 (stringslite_IndexByte s (bat substr 0)))] [4] [(4, [], .int .i64 (stringslite_IndexByte s (bat substr 0)))] [fun _ => 0 ≤ (0 : Int) ∧ (0 : Int) < ln substr, fun wz => RetB Try.prog 56 ⟨[.string ⟨⟨s⟩⟩, .int .u8 (bat substr 0)]⟩ (.int .i64 (stringslite_IndexByte s (bat substr 0))) wz] H11 (by kernel_rfl) ⟨ho12, ((stringslite_IndexByte_ok _ _).b), trivial⟩ fun _ wd13 H14 hb => ?_
  clear H11
  replace hS := hS.below hb
  clear hb
  refine w_ret ?_
  obtain rfl := someE hm
  exact retR1 H14 rfl rfl ⟨_, rfl, rfl, (hS.sel [] rfl)⟩
 replace hm := bF hc hm
 refine s_reg [] [0, 1, 5, 31] [(0, [], .string ⟨⟨s⟩⟩), (1, [], .string ⟨⟨substr⟩⟩), (5, [], .int .i64 (ln substr)), (31, [], .bool (decide ((ln s) ≤ (ln substr))))] [] H11 (by kernel_rfl) trivial fun _ wd15 H16 hb => ?_
 clear H11
 replace hS := hS.below hb
 clear hb
 refine w_if H16 rfl (fun hc => ?_) (fun hc => ?c19)
 case c19 =>
  replace hm := bF hc hm
  exact noneE hm
 replace hm := bT hc hm
 refine s_reg [] [4] [(4, [], .int .i64 (-1))] [] H16 (by kernel_rfl) trivial fun _ wd17 H18 hb => ?_
 clear H16
 replace hS := hS.below hb
 clear hb
 refine w_ret ?_
 obtain rfl := someE hm
 exact retR1 H18 rfl rfl ⟨_, rfl, rfl, (hS.sel [] rfl)⟩
theorem stringslite_Index_ok  (s : Str) (substr : Str) (r : Int) (hm : stringslite_Index s substr = some r) : Ret Try.prog 45 ⟨[.string ⟨⟨s⟩⟩, .string ⟨⟨substr⟩⟩]⟩ (.int .i64 r) := retP_of (Try.call45 _) (fun w h => stringslite_Index_w F0   s substr r hm w h)

def strings_Index (s : Str) (substr : Str) : Option (Int) :=
  Option.bind (stringslite_Index s substr) fun y3 =>
  some y3
theorem strings_Index_w  (M : Av) (s : Str) (substr : Str) (r : Int) (hm : strings_Index s substr = some r) (w : World) (hS : S0 M [] w) : Calls Try.prog 39 ⟨[.string ⟨⟨s⟩⟩, .string ⟨⟨substr⟩⟩]⟩ w (fun e w' => ∃ v, e = .returned v ∧ v = .int .i64 r ∧ SH M (fpl []) w [] w') := by
 rw [strings_Index] at hm
 have hS0 : SH M (fpl []) w [] w := hS
 generalize hX : fpl [] = X at hS0 ⊢
 clear hS hX
 have hS := hS0
 clear hS0
 refine calls_entryP Try.func39 rfl Try.ntmps39 rfl fun _ H => ?_
 refine s_reg [] [0, 1] [(0, [], .string ⟨⟨s⟩⟩), (1, [], .string ⟨⟨substr⟩⟩)] [] H (by kernel_rfl) trivial fun _ wd1 H2 hb => ?_
 clear H
 replace hS := hS.below hb
 clear hb
 obtain ⟨y3, hy3, hm⟩ := bindE hm
 refine s_reg [(.int .i64 y3)] [4] [(4, [], .int .i64 y3)] [fun wz => RetB Try.prog 45 ⟨[.string ⟨⟨s⟩⟩, .string ⟨⟨substr⟩⟩]⟩ (.int .i64 y3) wz] H2 (by kernel_rfl) ⟨((stringslite_Index_ok _ _ _ hy3).b), trivial⟩ fun _ wd4 H5 hb => ?_
 clear H2
 replace hS := hS.below hb
 clear hb
 refine w_ret ?_
 obtain rfl := someE hm
 exact retR1 H5 rfl rfl ⟨_, rfl, rfl, (hS.sel [] rfl)⟩
theorem strings_Index_ok  (s : Str) (substr : Str) (r : Int) (hm : strings_Index s substr = some r) : Ret Try.prog 39 ⟨[.string ⟨⟨s⟩⟩, .string ⟨⟨substr⟩⟩]⟩ (.int .i64 r) := retP_of (Try.call39 _) (fun w h => strings_Index_w F0   s substr r hm w h)

def strings_Count_L1 (m : Nat) (substr : Str) : Nat → Str → Int → Option (Int)
  | 0, _, _ => none
  | kk + 1, v12, v13 =>
    Option.bind (strings_Index v12 substr) fun y14 =>
    cond (y14 == (-1)) (
    some v13) (
    chk (0 ≤ (w64 (y14 + (ln substr))) ∧ (w64 (y14 + (ln substr))) ≤ ln v12) <|
    lt (sub v12 (w64 (y14 + (ln substr))) (ln v12)) fun x24 =>
    strings_Count_L1 m substr kk x24 (w64 (v13 + 1)))
def strings_Count (m : Nat) (s : Str) (substr : Str) : Option (Int) :=
  cond ((ln substr) == 0) (
  none) (
  cond ((ln substr) == 1) (
  chk (0 ≤ (0 : Int) ∧ (0 : Int) < ln substr) <|
  some (nCountByte s (bat substr 0))) (
  strings_Count_L1 m substr m s 0))
theorem strings_Count_w  (M : Av) (m : Nat) (s : Str) (substr : Str) (r : Int) (hm : strings_Count m s substr = some r) (w : World) (hS : S0 M [] w) : Calls Try.prog 29 ⟨[.string ⟨⟨s⟩⟩, .string ⟨⟨substr⟩⟩]⟩ w (fun e w' => ∃ v, e = .returned v ∧ v = .int .i64 r ∧ SH M (fpl []) w [] w') := by
 rw [strings_Count] at hm
 have hS0 : SH M (fpl []) w [] w := hS
 generalize hX : fpl [] = X at hS0 ⊢
 clear hS hX
 have hS := hS0
 clear hS0
 refine calls_entryP Try.func29 rfl Try.ntmps29 rfl fun _ H => ?_
 refine s_reg [] [0, 1] [(0, [], .string ⟨⟨s⟩⟩), (1, [], .string ⟨⟨substr⟩⟩)] [] H (by kernel_rfl) trivial fun _ wd1 H2 hb => ?_
 clear H
 replace hS := hS.below hb
 clear hb
 refine w_seq ?_
 refine s_reg [] [0, 1, 9] [(0, [], .string ⟨⟨s⟩⟩), (1, [], .string ⟨⟨substr⟩⟩), (9, [], .bool ((ln substr) == 0))] [] H2 (by kernel_rfl) trivial fun _ wd3 H4 hb => ?_
 clear H2
 replace hS := hS.below hb
 clear hb
 refine w_if H4 rfl (fun hc => ?c30) (fun hc => ?_)
 case c30 =>
  replace hm := bT hc hm
  exact noneE hm
 replace hm := bF hc hm
 refine w_skip ?_
 refine w_seq ?_
 refine s_reg [] [0, 1, 15] [(0, [], .string ⟨⟨s⟩⟩), (1, [], .string ⟨⟨substr⟩⟩), (15, [], .bool ((ln substr) == 1))] [] H4 (by kernel_rfl) trivial fun _ wd5 H6 hb => ?_
 clear H4
 replace hS := hS.below hb
 clear hb
 refine w_if H6 rfl (fun hc => ?c29) (fun hc => ?_)
 case c29 =>
  replace hm := bT hc hm
  obtain ⟨ho7, hm⟩ := chkE hm
  refine s_reg [(.int .i64 (nCountByte s (bat substr 0)))] [4] [(4, [], .int .i64 (nCountByte s (bat substr 0)))] [fun _ => 0 ≤ (0 : Int) ∧ (0 : Int) < ln substr, fun wz => RetB Try.prog 38 ⟨[.string ⟨⟨s⟩⟩, .int .u8 (bat substr 0)]⟩ (.int .i64 (nCountByte s (bat substr 0))) wz] H6 (by kernel_rfl) ⟨ho7, (nat38 _ _ _), trivial⟩ fun _ wd8 H9 hb => ?_
  clear H6
  replace hS := hS.below hb
  clear hb
  refine w_ret ?_
  obtain rfl := someE hm
  exact retR1 H9 rfl rfl ⟨_, rfl, rfl, (hS.sel [] rfl)⟩
 replace hm := bF hc hm
 refine w_skip ?_
 refine s_reg [] [0, 1, 5] [(0, [], .string ⟨⟨s⟩⟩), (1, [], .string ⟨⟨substr⟩⟩), (5, [], .int .i64 0)] [] H6 (by kernel_rfl) trivial fun _ wd10 H11 hb => ?_
 clear H6
 replace hS := hS.below hb
 clear hb
 refine w_block ?_
 refine w_loop (fun kk a' w' => ∃ (v12 : Str) (v13 : Int), strings_Count_L1 m substr kk v12 v13 = some _ ∧ Fr 34 [(1, [], .string ⟨⟨substr⟩⟩), (0, [], .string ⟨⟨v12⟩⟩), (5, [], .int .i64 v13)] a' ∧ SH M X w [] w') ⟨_, s, 0, hm, FrG.keep (ks := [1, 0, 5]) H11 (by kernel_rfl), hS⟩ ?_
 clear hm H11 hS
 rintro kk _ wd28 ⟨v12, v13, hm, H, hS⟩
 cases kk with
 | zero => exact noneE hm
 | succ kk =>
  rw [strings_Count_L1] at hm
  refine w_block ?_
  obtain ⟨y14, hy14, hm⟩ := bindE hm
  refine s_reg [(.int .i64 y14)] [0, 1, 5, 6] [(0, [], .string ⟨⟨v12⟩⟩), (1, [], .string ⟨⟨substr⟩⟩), (5, [], .int .i64 v13), (6, [], .int .i64 y14)] [fun wz => RetB Try.prog 39 ⟨[.string ⟨⟨v12⟩⟩, .string ⟨⟨substr⟩⟩]⟩ (.int .i64 y14) wz] H (by kernel_rfl) ⟨((strings_Index_ok _ _ _ hy14).b), trivial⟩ fun _ wd15 H16 hb => ?_
  clear H
  replace hS := hS.below hb
  clear hb
  refine w_seq ?_
  refine s_reg [] [0, 1, 5, 6, 24] [(0, [], .string ⟨⟨v12⟩⟩), (1, [], .string ⟨⟨substr⟩⟩), (5, [], .int .i64 v13), (6, [], .int .i64 y14), (24, [], .bool (y14 == (-1)))] [] H16 (by kernel_rfl) trivial fun _ wd17 H18 hb => ?_
  clear H16
  replace hS := hS.below hb
  clear hb
  refine w_if H18 rfl (fun hc => ?c27) (fun hc => ?_)
  case c27 =>
   replace hm := bT hc hm
   refine s_reg [] [4] [(4, [], .int .i64 v13)] [] H18 (by kernel_rfl) trivial fun _ wd19 H20 hb => ?_
   clear H18
   replace hS := hS.below hb
   clear hb
   refine w_ret ?_
   obtain rfl := someE hm
   exact retR1 H20 rfl rfl ⟨_, rfl, rfl, (hS.sel [] rfl)⟩
  replace hm := bF hc hm
  refine w_skip ?_
  refine s_reg [] [0, 1, 5, 6] [(0, [], .string ⟨⟨v12⟩⟩), (1, [], .string ⟨⟨substr⟩⟩), (5, [], .int .i64 (w64 (v13 + 1))), (6, [], .int .i64 y14)] [] H18 (by kernel_rfl) trivial fun _ wd21 H22 hb => ?_
  clear H18
  replace hS := hS.below hb
  clear hb
  obtain ⟨ho23, hm⟩ := chkE hm
  obtain ⟨x24, hx24, hm⟩ := letE hm
  refine w_reg [] [0, 1, 5] [(0, [], .string ⟨⟨x24⟩⟩), (1, [], .string ⟨⟨substr⟩⟩), (5, [], .int .i64 (w64 (v13 + 1)))] [fun _ => 0 ≤ (w64 (y14 + (ln substr))) ∧ (w64 (y14 + (ln substr))) ≤ ln v12] H22 (by subst hx24; kernel_rfl) ⟨ho23, trivial⟩ fun _ wd25 H26 hb => ?_
  clear H22
  replace hS := hS.below hb
  clear hb
  exact ⟨_, Nat.lt_succ_self _, x24, w64 (v13 + 1), hm, FrG.keep (ks := [1, 0, 5]) H26 (by kernel_rfl), hS⟩
theorem strings_Count_ok  (m : Nat) (s : Str) (substr : Str) (r : Int) (hm : strings_Count m s substr = some r) : Ret Try.prog 29 ⟨[.string ⟨⟨s⟩⟩, .string ⟨⟨substr⟩⟩]⟩ (.int .i64 r) := retP_of (Try.call29 _) (fun w h => strings_Count_w F0 m   s substr r hm w h)

def input_Lines (m : Nat) (s : Str) : Option (Int × Int) :=
  Option.bind (input_Check s) fun y3 =>
  cond (y3 != 0) (
  some (0, y3)) (
  Option.bind (strings_Count m s [10]) fun y10 =>
  some (w64 (y10 + 1), 0))
theorem input_Lines_w  (M : Av) (m : Nat) (s : Str) (r : Int × Int) (hm : input_Lines m s = some r) (w : World) (hS : S0 M [] w) : Calls Try.prog 18 ⟨[.string ⟨⟨s⟩⟩]⟩ w (fun e w' => ∃ v, e = .returned v ∧ v = .tuple ⟨[.int .i64 r.1, .int .i64 r.2]⟩ ∧ SH M (fpl []) w [] w') := by
 rw [input_Lines] at hm
 have hS0 : SH M (fpl []) w [] w := hS
 generalize hX : fpl [] = X at hS0 ⊢
 clear hS hX
 have hS := hS0
 clear hS0
 refine calls_entryP Try.func18 rfl Try.ntmps18 rfl fun _ H => ?_
 refine s_reg [] [0] [(0, [], .string ⟨⟨s⟩⟩)] [] H (by kernel_rfl) trivial fun _ wd1 H2 hb => ?_
 clear H
 replace hS := hS.below hb
 clear hb
 refine w_seq ?_
 obtain ⟨y3, hy3, hm⟩ := bindE hm
 refine s_reg [(.int .i64 y3)] [0, 4] [(0, [], .string ⟨⟨s⟩⟩), (4, [], .int .i64 y3)] [fun wz => RetB Try.prog 22 ⟨[.string ⟨⟨s⟩⟩]⟩ (.int .i64 y3) wz] H2 (by kernel_rfl) ⟨((input_Check_ok _ _ hy3).b), trivial⟩ fun _ wd4 H5 hb => ?_
 clear H2
 replace hS := hS.below hb
 clear hb
 refine s_reg [] [0, 4, 8] [(0, [], .string ⟨⟨s⟩⟩), (4, [], .int .i64 y3), (8, [], .bool (y3 != 0))] [] H5 (by kernel_rfl) trivial fun _ wd6 H7 hb => ?_
 clear H5
 replace hS := hS.below hb
 clear hb
 refine w_if H7 rfl (fun hc => ?c13) (fun hc => ?_)
 case c13 =>
  replace hm := bT hc hm
  refine s_reg [] [2, 3] [(2, [], .int .i64 0), (3, [], .int .i64 y3)] [] H7 (by kernel_rfl) trivial fun _ wd8 H9 hb => ?_
  clear H7
  replace hS := hS.below hb
  clear hb
  refine w_ret ?_
  obtain rfl := someE hm
  exact retR2 H9 rfl rfl rfl ⟨_, rfl, rfl, (hS.sel [] rfl)⟩
 replace hm := bF hc hm
 refine w_skip ?_
 obtain ⟨y10, hy10, hm⟩ := bindE hm
 refine s_reg [(.int .i64 y10)] [2, 3] [(2, [], .int .i64 (w64 (y10 + 1))), (3, [], .int .i64 0)] [fun wz => RetB Try.prog 29 ⟨[.string ⟨⟨s⟩⟩, .string ⟨⟨[10]⟩⟩]⟩ (.int .i64 y10) wz] H7 (by kernel_rfl) ⟨((strings_Count_ok m _ _ _ hy10).b), trivial⟩ fun _ wd11 H12 hb => ?_
 clear H7
 replace hS := hS.below hb
 clear hb
 refine w_ret ?_
 obtain rfl := someE hm
 exact retR2 H12 rfl rfl rfl ⟨_, rfl, rfl, (hS.sel [] rfl)⟩
theorem input_Lines_ok  (m : Nat) (s : Str) (r : Int × Int) (hm : input_Lines m s = some r) : Ret Try.prog 18 ⟨[.string ⟨⟨s⟩⟩]⟩ (.tuple ⟨[.int .i64 r.1, .int .i64 r.2]⟩) := retP_of (Try.call18 _) (fun w h => input_Lines_w F0 m   s r hm w h)

def r01_Is_L1 (m : Nat) (s : Str) : Nat → Int → Option (Sum (Bool) (Unit))
  | 0, _ => none
  | kk + 1, v6 =>
    cond (decide (v6 < (ln s))) (
    chk (0 ≤ v6 ∧ v6 < ln s) <|
    lt (cond ((bat s v6) == 0) true ((bat s v6) == 12)) fun x10 =>
    cond (cond x10 true ((bat s v6) == 13)) (
    some (.inl false)) (
    r01_Is_L1 m s kk (w64 (v6 + 1)))) (
    some (.inr ()))
def r01_Is (m : Nat) (s : Str) : Option (Bool) :=
  Option.bind (
  r01_Is_L1 m s m 0) fun (z3 : Sum (Bool) (Unit)) => sumK z3 fun s_z3 =>
  some true
theorem r01_Is_w  (M : Av) (m : Nat) (s : Str) (r : Bool) (hm : r01_Is m s = some r) (w : World) (hS : S0 M [] w) : Calls Try.prog 33 ⟨[.string ⟨⟨s⟩⟩]⟩ w (fun e w' => ∃ v, e = .returned v ∧ v = .bool r ∧ SH M (fpl []) w [] w') := by
 rw [r01_Is] at hm
 have hS0 : SH M (fpl []) w [] w := hS
 generalize hX : fpl [] = X at hS0 ⊢
 clear hS hX
 have hS := hS0
 clear hS0
 refine calls_entryP Try.func33 rfl Try.ntmps33 rfl fun _ H => ?_
 refine s_reg [] [0] [(0, [], .string ⟨⟨s⟩⟩)] [] H (by kernel_rfl) trivial fun _ wd1 H2 hb => ?_
 clear H
 replace hS := hS.below hb
 clear hb
 obtain ⟨z3, hz, hm_z3⟩ := bindE hm
 refine w_cut (fun a' w' => ∃ s_z3 : Unit, z3 = Sum.inr s_z3 ∧ Fr 26 [] a' ∧ SH M X w [] w') ?_ ?_
 ·replace hm := hz
  refine s_reg [] [0, 3] [(0, [], .string ⟨⟨s⟩⟩), (3, [], .int .i64 0)] [] H2 (by kernel_rfl) trivial fun _ wd4 H5 hb => ?_
  clear H2
  replace hS := hS.below hb
  clear hb
  refine w_block ?_
  refine w_loop (fun kk a' w' => ∃ (v6 : Int), r01_Is_L1 m s kk v6 = some _ ∧ Fr 26 [(0, [], .string ⟨⟨s⟩⟩), (3, [], .int .i64 v6)] a' ∧ SH M X w [] w') ⟨_, 0, hm, FrG.keep (ks := [0, 3]) H5 (by kernel_rfl), hS⟩ ?_
  clear hm H5 hS
  rintro kk _ wd19 ⟨v6, hm, H, hS⟩
  cases kk with
  | zero => exact noneE hm
  | succ kk =>
   rw [r01_Is_L1] at hm
   refine w_seq ?_
   refine s_reg [] [0, 3, 7] [(0, [], .string ⟨⟨s⟩⟩), (3, [], .int .i64 v6), (7, [], .bool (decide (v6 < (ln s))))] [] H (by kernel_rfl) trivial fun _ wd7 H8 hb => ?_
   clear H
   replace hS := hS.below hb
   clear hb
   refine w_if H8 rfl (fun hc => ?_) (fun hc => ?c18)
   case c18 =>
    replace hm := bF hc hm
    refine w_exit rfl ?_
    obtain rfl := someE hm
    exact ⟨_, rfl, FrG.keep (ks := []) H8 (by kernel_rfl), hS⟩
   replace hm := bT hc hm
   refine w_skip ?_
   refine w_seq ?_
   refine w_block ?_
   obtain ⟨ho9, hm⟩ := chkE hm
   obtain ⟨x10, hx10, hm⟩ := letE hm
   refine s_reg [] [0, 3, 25] [(0, [], .string ⟨⟨s⟩⟩), (3, [], .int .i64 v6), (25, [], .bool (cond x10 true ((bat s v6) == 13)))] [fun _ => 0 ≤ v6 ∧ v6 < ln s, fun _ => (((bat s v6) == 0) = false ∧ True → 0 ≤ v6 ∧ v6 < ln s), fun _ => (x10 = false ∧ True → 0 ≤ v6 ∧ v6 < ln s)] H8 (by subst hx10; kernel_rfl) ⟨ho9, fun hg => ho9, fun hg => ho9, trivial⟩ fun _ wd11 H12 hb => ?_
   clear H8
   replace hS := hS.below hb
   clear hb
   refine w_if H12 rfl (fun hc => ?_) (fun hc => ?c17)
   case c17 =>
    replace hm := bF hc hm
    refine w_skip ?_
    refine w_reg [] [0, 3] [(0, [], .string ⟨⟨s⟩⟩), (3, [], .int .i64 (w64 (v6 + 1)))] [] H12 (by kernel_rfl) trivial fun _ wd15 H16 hb => ?_
    clear H12
    replace hS := hS.below hb
    clear hb
    exact ⟨_, Nat.lt_succ_self _, w64 (v6 + 1), hm, FrG.keep (ks := [0, 3]) H16 (by kernel_rfl), hS⟩
   replace hm := bT hc hm
   refine s_reg [] [2] [(2, [], .bool false)] [] H12 (by kernel_rfl) trivial fun _ wd13 H14 hb => ?_
   clear H12
   replace hS := hS.below hb
   clear hb
   refine w_ret ?_
   obtain rfl := someE hm
   have hm := hm_z3
   obtain rfl := someE hm
   exact retR1 H14 rfl rfl ⟨_, rfl, rfl, (hS.sel [] rfl)⟩
 ·rintro _ wd22 ⟨s_z3, hz, H, hS⟩
  subst hz
  replace hm := sumR hm_z3
  refine s_reg [] [2] [(2, [], .bool true)] [] H (by kernel_rfl) trivial fun _ wd20 H21 hb => ?_
  clear H
  replace hS := hS.below hb
  clear hb
  refine w_ret ?_
  obtain rfl := someE hm
  exact retR1 H21 rfl rfl ⟨_, rfl, rfl, (hS.sel [] rfl)⟩
theorem r01_Is_ok  (m : Nat) (s : Str) (r : Bool) (hm : r01_Is m s = some r) : Ret Try.prog 33 ⟨[.string ⟨⟨s⟩⟩]⟩ (.bool r) := retP_of (Try.call33 _) (fun w h => r01_Is_w F0 m   s r hm w h)

def r01_Check (m : Nat) (s : Str) : Option (Int) :=
  cond (decide (12000 < (ln s))) (
  some 28) (
  Option.bind (r01_Is m s) fun y7 =>
  cond (!y7) (
  some 8) (
  some 0))
theorem r01_Check_w  (M : Av) (m : Nat) (s : Str) (r : Int) (hm : r01_Check m s = some r) (w : World) (hS : S0 M [] w) : Calls Try.prog 23 ⟨[.string ⟨⟨s⟩⟩]⟩ w (fun e w' => ∃ v, e = .returned v ∧ v = .int .i64 r ∧ SH M (fpl []) w [] w') := by
 rw [r01_Check] at hm
 have hS0 : SH M (fpl []) w [] w := hS
 generalize hX : fpl [] = X at hS0 ⊢
 clear hS hX
 have hS := hS0
 clear hS0
 refine calls_entryP Try.func23 rfl Try.ntmps23 rfl fun _ H => ?_
 refine s_reg [] [0] [(0, [], .string ⟨⟨s⟩⟩)] [] H (by kernel_rfl) trivial fun _ wd1 H2 hb => ?_
 clear H
 replace hS := hS.below hb
 clear hb
 refine w_seq ?_
 refine s_reg [] [0, 5] [(0, [], .string ⟨⟨s⟩⟩), (5, [], .bool (decide (12000 < (ln s))))] [] H2 (by kernel_rfl) trivial fun _ wd3 H4 hb => ?_
 clear H2
 replace hS := hS.below hb
 clear hb
 refine w_if H4 rfl (fun hc => ?c15) (fun hc => ?_)
 case c15 =>
  replace hm := bT hc hm
  refine s_reg [] [2] [(2, [], .int .i64 28)] [] H4 (by kernel_rfl) trivial fun _ wd5 H6 hb => ?_
  clear H4
  replace hS := hS.below hb
  clear hb
  refine w_ret ?_
  obtain rfl := someE hm
  exact retR1 H6 rfl rfl ⟨_, rfl, rfl, (hS.sel [] rfl)⟩
 replace hm := bF hc hm
 refine w_skip ?_
 refine w_seq ?_
 obtain ⟨y7, hy7, hm⟩ := bindE hm
 refine s_reg [(.bool y7)] [8] [(8, [], .bool (!y7))] [fun wz => RetB Try.prog 33 ⟨[.string ⟨⟨s⟩⟩]⟩ (.bool y7) wz] H4 (by kernel_rfl) ⟨((r01_Is_ok m _ _ hy7).b), trivial⟩ fun _ wd8 H9 hb => ?_
 clear H4
 replace hS := hS.below hb
 clear hb
 refine w_if H9 rfl (fun hc => ?c14) (fun hc => ?_)
 case c14 =>
  replace hm := bT hc hm
  refine s_reg [] [2] [(2, [], .int .i64 8)] [] H9 (by kernel_rfl) trivial fun _ wd10 H11 hb => ?_
  clear H9
  replace hS := hS.below hb
  clear hb
  refine w_ret ?_
  obtain rfl := someE hm
  exact retR1 H11 rfl rfl ⟨_, rfl, rfl, (hS.sel [] rfl)⟩
 replace hm := bF hc hm
 refine w_skip ?_
 refine s_reg [] [2] [(2, [], .int .i64 0)] [] H9 (by kernel_rfl) trivial fun _ wd12 H13 hb => ?_
 clear H9
 replace hS := hS.below hb
 clear hb
 refine w_ret ?_
 obtain rfl := someE hm
 exact retR1 H13 rfl rfl ⟨_, rfl, rfl, (hS.sel [] rfl)⟩
theorem r01_Check_ok  (m : Nat) (s : Str) (r : Int) (hm : r01_Check m s = some r) : Ret Try.prog 23 ⟨[.string ⟨⟨s⟩⟩]⟩ (.int .i64 r) := retP_of (Try.call23 _) (fun w h => r01_Check_w F0 m   s r hm w h)

def r01_Ends_L1 (m : Nat) (s : Str) : Nat → Int → Int → Option (Int)
  | 0, _, _ => none
  | kk + 1, v8, v9 =>
    cond (decide (v9 < (ln s))) (
    Option.bind (
    chk (0 ≤ v9 ∧ v9 < ln s) <|
    cond ((bat s v9) == 10) (
    some (w64 (v8 + 1))) (
    some v8)) fun (z12 : Int) =>
    r01_Ends_L1 m s kk z12 (w64 (v9 + 1))) (
    some v8)
def r01_Ends (m : Nat) (s : Str) : Option (Int) :=
  Option.bind (
  r01_Ends_L1 m s m 0 0) fun (z5 : Int) =>
  some z5
theorem r01_Ends_w  (M : Av) (m : Nat) (s : Str) (r : Int) (hm : r01_Ends m s = some r) (w : World) (hS : S0 M [] w) : Calls Try.prog 30 ⟨[.string ⟨⟨s⟩⟩]⟩ w (fun e w' => ∃ v, e = .returned v ∧ v = .int .i64 r ∧ SH M (fpl []) w [] w') := by
 rw [r01_Ends] at hm
 have hS0 : SH M (fpl []) w [] w := hS
 generalize hX : fpl [] = X at hS0 ⊢
 clear hS hX
 have hS := hS0
 clear hS0
 refine calls_entryP Try.func30 rfl Try.ntmps30 rfl fun _ H => ?_
 refine s_reg [] [0] [(0, [], .string ⟨⟨s⟩⟩)] [] H (by kernel_rfl) trivial fun _ wd1 H2 hb => ?_
 clear H
 replace hS := hS.below hb
 clear hb
 refine s_reg [] [0, 3] [(0, [], .string ⟨⟨s⟩⟩), (3, [], .int .i64 0)] [] H2 (by kernel_rfl) trivial fun _ wd3 H4 hb => ?_
 clear H2
 replace hS := hS.below hb
 clear hb
 obtain ⟨z5, hz, hm⟩ := bindE hm
 refine w_cut (fun a' w' => Fr 18 [(3, [], .int .i64 z5)] a' ∧ SH M X w [] w') ?_ ?_
 ·replace hm := hz
  refine s_reg [] [0, 3, 4] [(0, [], .string ⟨⟨s⟩⟩), (3, [], .int .i64 0), (4, [], .int .i64 0)] [] H4 (by kernel_rfl) trivial fun _ wd6 H7 hb => ?_
  clear H4
  replace hS := hS.below hb
  clear hb
  refine w_block ?_
  refine w_loop (fun kk a' w' => ∃ (v8 : Int) (v9 : Int), r01_Ends_L1 m s kk v8 v9 = some _ ∧ Fr 18 [(0, [], .string ⟨⟨s⟩⟩), (3, [], .int .i64 v8), (4, [], .int .i64 v9)] a' ∧ SH M X w [] w') ⟨_, 0, 0, hm, FrG.keep (ks := [0, 3, 4]) H7 (by kernel_rfl), hS⟩ ?_
  clear hm H7 hS
  rintro kk _ wd23 ⟨v8, v9, hm, H, hS⟩
  cases kk with
  | zero => exact noneE hm
  | succ kk =>
   rw [r01_Ends_L1] at hm
   refine w_seq ?_
   refine s_reg [] [0, 3, 4, 8] [(0, [], .string ⟨⟨s⟩⟩), (3, [], .int .i64 v8), (4, [], .int .i64 v9), (8, [], .bool (decide (v9 < (ln s))))] [] H (by kernel_rfl) trivial fun _ wd10 H11 hb => ?_
   clear H
   replace hS := hS.below hb
   clear hb
   refine w_if H11 rfl (fun hc => ?_) (fun hc => ?c22)
   case c22 =>
    replace hm := bF hc hm
    refine w_exit rfl ?_
    obtain rfl := someE hm
    exact ⟨FrG.keep (ks := [3]) H11 (by kernel_rfl), hS⟩
   replace hm := bT hc hm
   refine w_skip ?_
   obtain ⟨z12, hz, hm⟩ := bindE hm
   refine w_cut (fun a' w' => Fr 18 [(0, [], .string ⟨⟨s⟩⟩), (4, [], .int .i64 v9), (3, [], .int .i64 z12)] a' ∧ SH M X w [] w') ?_ ?_
   ·replace hm := hz
    refine w_block ?_
    obtain ⟨ho13, hm⟩ := chkE hm
    refine s_reg [] [0, 3, 4, 14] [(0, [], .string ⟨⟨s⟩⟩), (3, [], .int .i64 v8), (4, [], .int .i64 v9), (14, [], .bool ((bat s v9) == 10))] [fun _ => 0 ≤ v9 ∧ v9 < ln s] H11 (by kernel_rfl) ⟨ho13, trivial⟩ fun _ wd14 H15 hb => ?_
    clear H11
    replace hS := hS.below hb
    clear hb
    refine w_if H15 rfl (fun hc => ?_) (fun hc => ?c18)
    case c18 =>
     replace hm := bF hc hm
     refine w_skip ?_
     obtain rfl := someE hm
     exact ⟨FrG.keep (ks := [0, 4, 3]) H15 (by kernel_rfl), hS⟩
    replace hm := bT hc hm
    refine w_reg [] [0, 3, 4] [(0, [], .string ⟨⟨s⟩⟩), (3, [], .int .i64 (w64 (v8 + 1))), (4, [], .int .i64 v9)] [] H15 (by kernel_rfl) trivial fun _ wd16 H17 hb => ?_
    clear H15
    replace hS := hS.below hb
    clear hb
    obtain rfl := someE hm
    exact ⟨FrG.keep (ks := [0, 4, 3]) H17 (by kernel_rfl), hS⟩
   ·rintro _ wd21 ⟨H, hS⟩
    refine w_reg [] [0, 3, 4] [(0, [], .string ⟨⟨s⟩⟩), (3, [], .int .i64 z12), (4, [], .int .i64 (w64 (v9 + 1)))] [] H (by kernel_rfl) trivial fun _ wd19 H20 hb => ?_
    clear H
    replace hS := hS.below hb
    clear hb
    exact ⟨_, Nat.lt_succ_self _, z12, w64 (v9 + 1), hm, FrG.keep (ks := [0, 3, 4]) H20 (by kernel_rfl), hS⟩
 ·rintro _ wd26 ⟨H, hS⟩
  refine s_reg [] [2] [(2, [], .int .i64 z5)] [] H (by kernel_rfl) trivial fun _ wd24 H25 hb => ?_
  clear H
  replace hS := hS.below hb
  clear hb
  refine w_ret ?_
  obtain rfl := someE hm
  exact retR1 H25 rfl rfl ⟨_, rfl, rfl, (hS.sel [] rfl)⟩
theorem r01_Ends_ok  (m : Nat) (s : Str) (r : Int) (hm : r01_Ends m s = some r) : Ret Try.prog 30 ⟨[.string ⟨⟨s⟩⟩]⟩ (.int .i64 r) := retP_of (Try.call30 _) (fun w h => r01_Ends_w F0 m   s r hm w h)

def r01_Lines (m : Nat) (s : Str) : Option (Int × Int) :=
  Option.bind (r01_Check m s) fun y3 =>
  cond (y3 != 0) (
  some (0, y3)) (
  Option.bind (r01_Ends m s) fun y10 =>
  some (w64 (y10 + 1), 0))
theorem r01_Lines_w  (M : Av) (m : Nat) (s : Str) (r : Int × Int) (hm : r01_Lines m s = some r) (w : World) (hS : S0 M [] w) : Calls Try.prog 19 ⟨[.string ⟨⟨s⟩⟩]⟩ w (fun e w' => ∃ v, e = .returned v ∧ v = .tuple ⟨[.int .i64 r.1, .int .i64 r.2]⟩ ∧ SH M (fpl []) w [] w') := by
 rw [r01_Lines] at hm
 have hS0 : SH M (fpl []) w [] w := hS
 generalize hX : fpl [] = X at hS0 ⊢
 clear hS hX
 have hS := hS0
 clear hS0
 refine calls_entryP Try.func19 rfl Try.ntmps19 rfl fun _ H => ?_
 refine s_reg [] [0] [(0, [], .string ⟨⟨s⟩⟩)] [] H (by kernel_rfl) trivial fun _ wd1 H2 hb => ?_
 clear H
 replace hS := hS.below hb
 clear hb
 refine w_seq ?_
 obtain ⟨y3, hy3, hm⟩ := bindE hm
 refine s_reg [(.int .i64 y3)] [0, 4] [(0, [], .string ⟨⟨s⟩⟩), (4, [], .int .i64 y3)] [fun wz => RetB Try.prog 23 ⟨[.string ⟨⟨s⟩⟩]⟩ (.int .i64 y3) wz] H2 (by kernel_rfl) ⟨((r01_Check_ok m _ _ hy3).b), trivial⟩ fun _ wd4 H5 hb => ?_
 clear H2
 replace hS := hS.below hb
 clear hb
 refine s_reg [] [0, 4, 8] [(0, [], .string ⟨⟨s⟩⟩), (4, [], .int .i64 y3), (8, [], .bool (y3 != 0))] [] H5 (by kernel_rfl) trivial fun _ wd6 H7 hb => ?_
 clear H5
 replace hS := hS.below hb
 clear hb
 refine w_if H7 rfl (fun hc => ?c13) (fun hc => ?_)
 case c13 =>
  replace hm := bT hc hm
  refine s_reg [] [2, 3] [(2, [], .int .i64 0), (3, [], .int .i64 y3)] [] H7 (by kernel_rfl) trivial fun _ wd8 H9 hb => ?_
  clear H7
  replace hS := hS.below hb
  clear hb
  refine w_ret ?_
  obtain rfl := someE hm
  exact retR2 H9 rfl rfl rfl ⟨_, rfl, rfl, (hS.sel [] rfl)⟩
 replace hm := bF hc hm
 refine w_skip ?_
 obtain ⟨y10, hy10, hm⟩ := bindE hm
 refine s_reg [(.int .i64 y10)] [2, 3] [(2, [], .int .i64 (w64 (y10 + 1))), (3, [], .int .i64 0)] [fun wz => RetB Try.prog 30 ⟨[.string ⟨⟨s⟩⟩]⟩ (.int .i64 y10) wz] H7 (by kernel_rfl) ⟨((r01_Ends_ok m _ _ hy10).b), trivial⟩ fun _ wd11 H12 hb => ?_
 clear H7
 replace hS := hS.below hb
 clear hb
 refine w_ret ?_
 obtain rfl := someE hm
 exact retR2 H12 rfl rfl rfl ⟨_, rfl, rfl, (hS.sel [] rfl)⟩
theorem r01_Lines_ok  (m : Nat) (s : Str) (r : Int × Int) (hm : r01_Lines m s = some r) : Ret Try.prog 19 ⟨[.string ⟨⟨s⟩⟩]⟩ (.tuple ⟨[.int .i64 r.1, .int .i64 r.2]⟩) := retP_of (Try.call19 _) (fun w h => r01_Lines_w F0 m   s r hm w h)

def bytealg_LastIndexByteString_L1 (m : Nat) (s : Str) (c_ : Int) : Nat → Int → Option (Sum (Int) (Unit))
  | 0, _ => none
  | kk + 1, v6 =>
    cond (decide (0 ≤ v6)) (
    chk (0 ≤ v6 ∧ v6 < ln s) <|
    cond ((bat s v6) == c_) (
    some (.inl v6)) (
    bytealg_LastIndexByteString_L1 m s c_ kk (w64 (v6 - 1)))) (
    some (.inr ()))
def bytealg_LastIndexByteString (m : Nat) (s : Str) (c_ : Int) : Option (Int) :=
  Option.bind (
  bytealg_LastIndexByteString_L1 m s c_ m (w64 ((ln s) - 1))) fun (z3 : Sum (Int) (Unit)) => sumK z3 fun s_z3 =>
  some (-1)
theorem bytealg_LastIndexByteString_w  (M : Av) (m : Nat) (s : Str) (c_ : Int) (r : Int) (hm : bytealg_LastIndexByteString m s c_ = some r) (w : World) (hS : S0 M [] w) : Calls Try.prog 40 ⟨[.string ⟨⟨s⟩⟩, .int .u8 c_]⟩ w (fun e w' => ∃ v, e = .returned v ∧ v = .int .i64 r ∧ SH M (fpl []) w [] w') := by
 rw [bytealg_LastIndexByteString] at hm
 have hS0 : SH M (fpl []) w [] w := hS
 generalize hX : fpl [] = X at hS0 ⊢
 clear hS hX
 have hS := hS0
 clear hS0
 refine calls_entryP Try.func40 rfl Try.ntmps40 rfl fun _ H => ?_
 refine s_reg [] [0, 1] [(0, [], .string ⟨⟨s⟩⟩), (1, [], .int .u8 c_)] [] H (by kernel_rfl) trivial fun _ wd1 H2 hb => ?_
 clear H
 replace hS := hS.below hb
 clear hb
 obtain ⟨z3, hz, hm_z3⟩ := bindE hm
 refine w_cut (fun a' w' => ∃ s_z3 : Unit, z3 = Sum.inr s_z3 ∧ Fr 19 [] a' ∧ SH M X w [] w') ?_ ?_
 ·replace hm := hz
  refine s_reg [] [0, 1, 5] [(0, [], .string ⟨⟨s⟩⟩), (1, [], .int .u8 c_), (5, [], .int .i64 (w64 ((ln s) - 1)))] [] H2 (by kernel_rfl) trivial fun _ wd4 H5 hb => ?_
  clear H2
  replace hS := hS.below hb
  clear hb
  refine w_block ?_
  refine w_loop (fun kk a' w' => ∃ (v6 : Int), bytealg_LastIndexByteString_L1 m s c_ kk v6 = some _ ∧ Fr 19 [(0, [], .string ⟨⟨s⟩⟩), (1, [], .int .u8 c_), (5, [], .int .i64 v6)] a' ∧ SH M X w [] w') ⟨_, w64 ((ln s) - 1), hm, FrG.keep (ks := [0, 1, 5]) H5 (by kernel_rfl), hS⟩ ?_
  clear hm H5 hS
  rintro kk _ wd18 ⟨v6, hm, H, hS⟩
  cases kk with
  | zero => exact noneE hm
  | succ kk =>
   rw [bytealg_LastIndexByteString_L1] at hm
   refine w_seq ?_
   refine s_reg [] [0, 1, 5, 10] [(0, [], .string ⟨⟨s⟩⟩), (1, [], .int .u8 c_), (5, [], .int .i64 v6), (10, [], .bool (decide (0 ≤ v6)))] [] H (by kernel_rfl) trivial fun _ wd7 H8 hb => ?_
   clear H
   replace hS := hS.below hb
   clear hb
   refine w_if H8 rfl (fun hc => ?_) (fun hc => ?c17)
   case c17 =>
    replace hm := bF hc hm
    refine w_exit rfl ?_
    obtain rfl := someE hm
    exact ⟨_, rfl, FrG.keep (ks := []) H8 (by kernel_rfl), hS⟩
   replace hm := bT hc hm
   refine w_skip ?_
   refine w_seq ?_
   refine w_block ?_
   obtain ⟨ho9, hm⟩ := chkE hm
   refine s_reg [] [0, 1, 5, 17] [(0, [], .string ⟨⟨s⟩⟩), (1, [], .int .u8 c_), (5, [], .int .i64 v6), (17, [], .bool ((bat s v6) == c_))] [fun _ => 0 ≤ v6 ∧ v6 < ln s] H8 (by kernel_rfl) ⟨ho9, trivial⟩ fun _ wd10 H11 hb => ?_
   clear H8
   replace hS := hS.below hb
   clear hb
   refine w_if H11 rfl (fun hc => ?_) (fun hc => ?c16)
   case c16 =>
    replace hm := bF hc hm
    refine w_skip ?_
    refine w_reg [] [0, 1, 5] [(0, [], .string ⟨⟨s⟩⟩), (1, [], .int .u8 c_), (5, [], .int .i64 (w64 (v6 - 1)))] [] H11 (by kernel_rfl) trivial fun _ wd14 H15 hb => ?_
    clear H11
    replace hS := hS.below hb
    clear hb
    exact ⟨_, Nat.lt_succ_self _, w64 (v6 - 1), hm, FrG.keep (ks := [0, 1, 5]) H15 (by kernel_rfl), hS⟩
   replace hm := bT hc hm
   refine s_reg [] [4] [(4, [], .int .i64 v6)] [] H11 (by kernel_rfl) trivial fun _ wd12 H13 hb => ?_
   clear H11
   replace hS := hS.below hb
   clear hb
   refine w_ret ?_
   obtain rfl := someE hm
   have hm := hm_z3
   obtain rfl := someE hm
   exact retR1 H13 rfl rfl ⟨_, rfl, rfl, (hS.sel [] rfl)⟩
 ·rintro _ wd21 ⟨s_z3, hz, H, hS⟩
  subst hz
  replace hm := sumR hm_z3
  refine s_reg [] [4] [(4, [], .int .i64 (-1))] [] H (by kernel_rfl) trivial fun _ wd19 H20 hb => ?_
  clear H
  replace hS := hS.below hb
  clear hb
  refine w_ret ?_
  obtain rfl := someE hm
  exact retR1 H20 rfl rfl ⟨_, rfl, rfl, (hS.sel [] rfl)⟩
theorem bytealg_LastIndexByteString_ok  (m : Nat) (s : Str) (c_ : Int) (r : Int) (hm : bytealg_LastIndexByteString m s c_ = some r) : Ret Try.prog 40 ⟨[.string ⟨⟨s⟩⟩, .int .u8 c_]⟩ (.int .i64 r) := retP_of (Try.call40 _) (fun w h => bytealg_LastIndexByteString_w F0 m   s c_ r hm w h)

def strings_LastIndexByte (m : Nat) (s : Str) (c_ : Int) : Option (Int) :=
  Option.bind (bytealg_LastIndexByteString m s c_) fun y3 =>
  some y3
theorem strings_LastIndexByte_w  (M : Av) (m : Nat) (s : Str) (c_ : Int) (r : Int) (hm : strings_LastIndexByte m s c_ = some r) (w : World) (hS : S0 M [] w) : Calls Try.prog 31 ⟨[.string ⟨⟨s⟩⟩, .int .u8 c_]⟩ w (fun e w' => ∃ v, e = .returned v ∧ v = .int .i64 r ∧ SH M (fpl []) w [] w') := by
 rw [strings_LastIndexByte] at hm
 have hS0 : SH M (fpl []) w [] w := hS
 generalize hX : fpl [] = X at hS0 ⊢
 clear hS hX
 have hS := hS0
 clear hS0
 refine calls_entryP Try.func31 rfl Try.ntmps31 rfl fun _ H => ?_
 refine s_reg [] [0, 1] [(0, [], .string ⟨⟨s⟩⟩), (1, [], .int .u8 c_)] [] H (by kernel_rfl) trivial fun _ wd1 H2 hb => ?_
 clear H
 replace hS := hS.below hb
 clear hb
 obtain ⟨y3, hy3, hm⟩ := bindE hm
 refine s_reg [(.int .i64 y3)] [4] [(4, [], .int .i64 y3)] [fun wz => RetB Try.prog 40 ⟨[.string ⟨⟨s⟩⟩, .int .u8 c_]⟩ (.int .i64 y3) wz] H2 (by kernel_rfl) ⟨((bytealg_LastIndexByteString_ok m _ _ _ hy3).b), trivial⟩ fun _ wd4 H5 hb => ?_
 clear H2
 replace hS := hS.below hb
 clear hb
 refine w_ret ?_
 obtain rfl := someE hm
 exact retR1 H5 rfl rfl ⟨_, rfl, rfl, (hS.sel [] rfl)⟩
theorem strings_LastIndexByte_ok  (m : Nat) (s : Str) (c_ : Int) (r : Int) (hm : strings_LastIndexByte m s c_ = some r) : Ret Try.prog 31 ⟨[.string ⟨⟨s⟩⟩, .int .u8 c_]⟩ (.int .i64 r) := retP_of (Try.call31 _) (fun w h => strings_LastIndexByte_w F0 m   s c_ r hm w h)

def input_Place (m : Nat) (s : Str) (at_ : Int) : Option (Int × Int × Int) :=
  Option.bind (input_Check s) fun y3 =>
  cond (y3 != 0) (
  some (0, 0, y3)) (
  lt (cond (decide (at_ < 0)) true (decide ((ln s) < at_))) fun x10 =>
  cond x10 (
  some (0, 0, 2)) (
  chk (0 ≤ at_ ∧ at_ ≤ ln s) <|
  Option.bind (strings_Count m (sub s 0 at_) [10]) fun y18 =>
  Option.bind (strings_LastIndexByte m (sub s 0 at_) 10) fun y19 =>
  some (w64 (y18 + 1), w64 (at_ - y19), 0)))
theorem input_Place_w  (M : Av) (m : Nat) (s : Str) (at_ : Int) (r : Int × Int × Int) (hm : input_Place m s at_ = some r) (w : World) (hS : S0 M [] w) : Calls Try.prog 20 ⟨[.string ⟨⟨s⟩⟩, .int .i64 at_]⟩ w (fun e w' => ∃ v, e = .returned v ∧ v = .tuple ⟨[.int .i64 r.1, .int .i64 r.2.1, .int .i64 r.2.2]⟩ ∧ SH M (fpl []) w [] w') := by
 rw [input_Place] at hm
 have hS0 : SH M (fpl []) w [] w := hS
 generalize hX : fpl [] = X at hS0 ⊢
 clear hS hX
 have hS := hS0
 clear hS0
 refine calls_entryP Try.func20 rfl Try.ntmps20 rfl fun _ H => ?_
 refine s_reg [] [0, 1] [(0, [], .string ⟨⟨s⟩⟩), (1, [], .int .i64 at_)] [] H (by kernel_rfl) trivial fun _ wd1 H2 hb => ?_
 clear H
 replace hS := hS.below hb
 clear hb
 refine w_seq ?_
 obtain ⟨y3, hy3, hm⟩ := bindE hm
 refine s_reg [(.int .i64 y3)] [0, 1, 7] [(0, [], .string ⟨⟨s⟩⟩), (1, [], .int .i64 at_), (7, [], .int .i64 y3)] [fun wz => RetB Try.prog 22 ⟨[.string ⟨⟨s⟩⟩]⟩ (.int .i64 y3) wz] H2 (by kernel_rfl) ⟨((input_Check_ok _ _ hy3).b), trivial⟩ fun _ wd4 H5 hb => ?_
 clear H2
 replace hS := hS.below hb
 clear hb
 refine s_reg [] [0, 1, 7, 12] [(0, [], .string ⟨⟨s⟩⟩), (1, [], .int .i64 at_), (7, [], .int .i64 y3), (12, [], .bool (y3 != 0))] [] H5 (by kernel_rfl) trivial fun _ wd6 H7 hb => ?_
 clear H5
 replace hS := hS.below hb
 clear hb
 refine w_if H7 rfl (fun hc => ?c23) (fun hc => ?_)
 case c23 =>
  replace hm := bT hc hm
  refine s_reg [] [4, 5, 6] [(4, [], .int .i64 0), (5, [], .int .i64 0), (6, [], .int .i64 y3)] [] H7 (by kernel_rfl) trivial fun _ wd8 H9 hb => ?_
  clear H7
  replace hS := hS.below hb
  clear hb
  refine w_ret ?_
  obtain rfl := someE hm
  exact retR3 H9 rfl rfl rfl rfl ⟨_, rfl, rfl, (hS.sel [] rfl)⟩
 replace hm := bF hc hm
 refine w_skip ?_
 refine w_seq ?_
 obtain ⟨x10, hx10, hm⟩ := letE hm
 refine s_reg [] [0, 1, 21] [(0, [], .string ⟨⟨s⟩⟩), (1, [], .int .i64 at_), (21, [], .bool x10)] [] H7 (by subst hx10; kernel_rfl) trivial fun _ wd11 H12 hb => ?_
 clear H7
 replace hS := hS.below hb
 clear hb
 refine w_if H12 rfl (fun hc => ?c22) (fun hc => ?_)
 case c22 =>
  replace hm := bT hc hm
  refine s_reg [] [4, 5, 6] [(4, [], .int .i64 0), (5, [], .int .i64 0), (6, [], .int .i64 2)] [] H12 (by kernel_rfl) trivial fun _ wd13 H14 hb => ?_
  clear H12
  replace hS := hS.below hb
  clear hb
  refine w_ret ?_
  obtain rfl := someE hm
  exact retR3 H14 rfl rfl rfl rfl ⟨_, rfl, rfl, (hS.sel [] rfl)⟩
 replace hm := bF hc hm
 refine w_skip ?_
 obtain ⟨ho15, hm⟩ := chkE hm
 refine s_reg [] [1, 8] [(1, [], .int .i64 at_), (8, [], .string ⟨⟨sub s 0 at_⟩⟩)] [fun _ => 0 ≤ at_ ∧ at_ ≤ ln s] H12 (by kernel_rfl) ⟨ho15, trivial⟩ fun _ wd16 H17 hb => ?_
 clear H12
 replace hS := hS.below hb
 clear hb
 obtain ⟨y18, hy18, hm⟩ := bindE hm
 obtain ⟨y19, hy19, hm⟩ := bindE hm
 refine s_reg [(.int .i64 y18), (.int .i64 y19)] [4, 5, 6] [(4, [], .int .i64 (w64 (y18 + 1))), (5, [], .int .i64 (w64 (at_ - y19))), (6, [], .int .i64 0)] [fun wz => RetB Try.prog 29 ⟨[.string ⟨⟨sub s 0 at_⟩⟩, .string ⟨⟨[10]⟩⟩]⟩ (.int .i64 y18) wz, fun wz => RetB Try.prog 31 ⟨[.string ⟨⟨sub s 0 at_⟩⟩, .int .u8 10]⟩ (.int .i64 y19) wz] H17 (by kernel_rfl) ⟨((strings_Count_ok m _ _ _ hy18).b), ((strings_LastIndexByte_ok m _ _ _ hy19).b), trivial⟩ fun _ wd20 H21 hb => ?_
 clear H17
 replace hS := hS.below hb
 clear hb
 refine w_ret ?_
 obtain rfl := someE hm
 exact retR3 H21 rfl rfl rfl rfl ⟨_, rfl, rfl, (hS.sel [] rfl)⟩
theorem input_Place_ok  (m : Nat) (s : Str) (at_ : Int) (r : Int × Int × Int) (hm : input_Place m s at_ = some r) : Ret Try.prog 20 ⟨[.string ⟨⟨s⟩⟩, .int .i64 at_]⟩ (.tuple ⟨[.int .i64 r.1, .int .i64 r.2.1, .int .i64 r.2.2]⟩) := retP_of (Try.call20 _) (fun w h => input_Place_w F0 m   s at_ r hm w h)

def r01_Place_L1 (m : Nat) (s : Str) : Nat → Int → Int → Option (Int)
  | 0, _, _ => none
  | kk + 1, v20, v21 =>
    chk ((decide (0 ≤ v21)) = true → 0 ≤ v21 ∧ v21 < ln s) <|
    lt (cond (decide (0 ≤ v21)) ((bat s v21) != 10) false) fun x23 =>
    cond x23 (
    r01_Place_L1 m s kk (w64 (v20 + 1)) (w64 (v21 - 1))) (
    some v20)
def r01_Place (m : Nat) (s : Str) (at_ : Int) : Option (Int × Int × Int) :=
  Option.bind (r01_Check m s) fun y3 =>
  cond (y3 != 0) (
  some (0, 0, y3)) (
  lt (cond (decide (at_ < 0)) true (decide ((ln s) < at_))) fun x10 =>
  cond x10 (
  some (0, 0, 2)) (
  Option.bind (
  r01_Place_L1 m s m 1 (w64 (at_ - 1))) fun (z17 : Int) =>
  chk (0 ≤ at_ ∧ at_ ≤ ln s) <|
  Option.bind (r01_Ends m (sub s 0 at_)) fun y33 =>
  some (w64 (y33 + 1), z17, 0)))
theorem r01_Place_w  (M : Av) (m : Nat) (s : Str) (at_ : Int) (r : Int × Int × Int) (hm : r01_Place m s at_ = some r) (w : World) (hS : S0 M [] w) : Calls Try.prog 21 ⟨[.string ⟨⟨s⟩⟩, .int .i64 at_]⟩ w (fun e w' => ∃ v, e = .returned v ∧ v = .tuple ⟨[.int .i64 r.1, .int .i64 r.2.1, .int .i64 r.2.2]⟩ ∧ SH M (fpl []) w [] w') := by
 rw [r01_Place] at hm
 have hS0 : SH M (fpl []) w [] w := hS
 generalize hX : fpl [] = X at hS0 ⊢
 clear hS hX
 have hS := hS0
 clear hS0
 refine calls_entryP Try.func21 rfl Try.ntmps21 rfl fun _ H => ?_
 refine s_reg [] [0, 1] [(0, [], .string ⟨⟨s⟩⟩), (1, [], .int .i64 at_)] [] H (by kernel_rfl) trivial fun _ wd1 H2 hb => ?_
 clear H
 replace hS := hS.below hb
 clear hb
 refine w_seq ?_
 obtain ⟨y3, hy3, hm⟩ := bindE hm
 refine s_reg [(.int .i64 y3)] [0, 1, 7] [(0, [], .string ⟨⟨s⟩⟩), (1, [], .int .i64 at_), (7, [], .int .i64 y3)] [fun wz => RetB Try.prog 23 ⟨[.string ⟨⟨s⟩⟩]⟩ (.int .i64 y3) wz] H2 (by kernel_rfl) ⟨((r01_Check_ok m _ _ hy3).b), trivial⟩ fun _ wd4 H5 hb => ?_
 clear H2
 replace hS := hS.below hb
 clear hb
 refine s_reg [] [0, 1, 7, 13] [(0, [], .string ⟨⟨s⟩⟩), (1, [], .int .i64 at_), (7, [], .int .i64 y3), (13, [], .bool (y3 != 0))] [] H5 (by kernel_rfl) trivial fun _ wd6 H7 hb => ?_
 clear H5
 replace hS := hS.below hb
 clear hb
 refine w_if H7 rfl (fun hc => ?c38) (fun hc => ?_)
 case c38 =>
  replace hm := bT hc hm
  refine s_reg [] [4, 5, 6] [(4, [], .int .i64 0), (5, [], .int .i64 0), (6, [], .int .i64 y3)] [] H7 (by kernel_rfl) trivial fun _ wd8 H9 hb => ?_
  clear H7
  replace hS := hS.below hb
  clear hb
  refine w_ret ?_
  obtain rfl := someE hm
  exact retR3 H9 rfl rfl rfl rfl ⟨_, rfl, rfl, (hS.sel [] rfl)⟩
 replace hm := bF hc hm
 refine w_skip ?_
 refine w_seq ?_
 obtain ⟨x10, hx10, hm⟩ := letE hm
 refine s_reg [] [0, 1, 22] [(0, [], .string ⟨⟨s⟩⟩), (1, [], .int .i64 at_), (22, [], .bool x10)] [] H7 (by subst hx10; kernel_rfl) trivial fun _ wd11 H12 hb => ?_
 clear H7
 replace hS := hS.below hb
 clear hb
 refine w_if H12 rfl (fun hc => ?c37) (fun hc => ?_)
 case c37 =>
  replace hm := bT hc hm
  refine s_reg [] [4, 5, 6] [(4, [], .int .i64 0), (5, [], .int .i64 0), (6, [], .int .i64 2)] [] H12 (by kernel_rfl) trivial fun _ wd13 H14 hb => ?_
  clear H12
  replace hS := hS.below hb
  clear hb
  refine w_ret ?_
  obtain rfl := someE hm
  exact retR3 H14 rfl rfl rfl rfl ⟨_, rfl, rfl, (hS.sel [] rfl)⟩
 replace hm := bF hc hm
 refine w_skip ?_
 refine s_reg [] [0, 1, 8] [(0, [], .string ⟨⟨s⟩⟩), (1, [], .int .i64 at_), (8, [], .int .i64 1)] [] H12 (by kernel_rfl) trivial fun _ wd15 H16 hb => ?_
 clear H12
 replace hS := hS.below hb
 clear hb
 obtain ⟨z17, hz, hm⟩ := bindE hm
 refine w_cut (fun a' w' => Fr 43 [(0, [], .string ⟨⟨s⟩⟩), (1, [], .int .i64 at_), (8, [], .int .i64 z17)] a' ∧ SH M X w [] w') ?_ ?_
 ·replace hm := hz
  refine s_reg [] [0, 1, 8, 9] [(0, [], .string ⟨⟨s⟩⟩), (1, [], .int .i64 at_), (8, [], .int .i64 1), (9, [], .int .i64 (w64 (at_ - 1)))] [] H16 (by kernel_rfl) trivial fun _ wd18 H19 hb => ?_
  clear H16
  replace hS := hS.below hb
  clear hb
  refine w_block ?_
  refine w_loop (fun kk a' w' => ∃ (v20 : Int) (v21 : Int), r01_Place_L1 m s kk v20 v21 = some _ ∧ Fr 43 [(0, [], .string ⟨⟨s⟩⟩), (1, [], .int .i64 at_), (8, [], .int .i64 v20), (9, [], .int .i64 v21)] a' ∧ SH M X w [] w') ⟨_, 1, w64 (at_ - 1), hm, FrG.keep (ks := [0, 1, 8, 9]) H19 (by kernel_rfl), hS⟩ ?_
  clear hm H19 hS
  rintro kk _ wd31 ⟨v20, v21, hm, H, hS⟩
  cases kk with
  | zero => exact noneE hm
  | succ kk =>
   rw [r01_Place_L1] at hm
   refine w_seq ?_
   obtain ⟨ho22, hm⟩ := chkE hm
   obtain ⟨x23, hx23, hm⟩ := letE hm
   refine s_reg [] [0, 1, 8, 9, 32] [(0, [], .string ⟨⟨s⟩⟩), (1, [], .int .i64 at_), (8, [], .int .i64 v20), (9, [], .int .i64 v21), (32, [], .bool x23)] [fun _ => ((decide (0 ≤ v21)) = true ∧ True → 0 ≤ v21 ∧ v21 < ln s)] H (by subst hx23; kernel_rfl) ⟨fun hg => (ho22 hg.1), trivial⟩ fun _ wd24 H25 hb => ?_
   clear H
   replace hS := hS.below hb
   clear hb
   refine w_if H25 rfl (fun hc => ?_) (fun hc => ?c30)
   case c30 =>
    replace hm := bF hc hm
    refine w_exit rfl ?_
    obtain rfl := someE hm
    exact ⟨FrG.keep (ks := [0, 1, 8]) H25 (by kernel_rfl), hS⟩
   replace hm := bT hc hm
   refine w_skip ?_
   refine w_seq ?_
   refine w_block ?_
   refine w_reg [] [0, 1, 8, 9] [(0, [], .string ⟨⟨s⟩⟩), (1, [], .int .i64 at_), (8, [], .int .i64 (w64 (v20 + 1))), (9, [], .int .i64 v21)] [] H25 (by kernel_rfl) trivial fun _ wd26 H27 hb => ?_
   clear H25
   replace hS := hS.below hb
   clear hb
   refine w_reg [] [0, 1, 8, 9] [(0, [], .string ⟨⟨s⟩⟩), (1, [], .int .i64 at_), (8, [], .int .i64 (w64 (v20 + 1))), (9, [], .int .i64 (w64 (v21 - 1)))] [] H27 (by kernel_rfl) trivial fun _ wd28 H29 hb => ?_
   clear H27
   replace hS := hS.below hb
   clear hb
   exact ⟨_, Nat.lt_succ_self _, w64 (v20 + 1), w64 (v21 - 1), hm, FrG.keep (ks := [0, 1, 8, 9]) H29 (by kernel_rfl), hS⟩
 ·rintro _ wd36 ⟨H, hS⟩
  obtain ⟨ho32, hm⟩ := chkE hm
  obtain ⟨y33, hy33, hm⟩ := bindE hm
  refine s_reg [(.int .i64 y33)] [4, 5, 6] [(4, [], .int .i64 (w64 (y33 + 1))), (5, [], .int .i64 z17), (6, [], .int .i64 0)] [fun _ => 0 ≤ at_ ∧ at_ ≤ ln s, fun wz => RetB Try.prog 30 ⟨[.string ⟨⟨sub s 0 at_⟩⟩]⟩ (.int .i64 y33) wz] H (by kernel_rfl) ⟨ho32, ((r01_Ends_ok m _ _ hy33).b), trivial⟩ fun _ wd34 H35 hb => ?_
  clear H
  replace hS := hS.below hb
  clear hb
  refine w_ret ?_
  obtain rfl := someE hm
  exact retR3 H35 rfl rfl rfl rfl ⟨_, rfl, rfl, (hS.sel [] rfl)⟩
theorem r01_Place_ok  (m : Nat) (s : Str) (at_ : Int) (r : Int × Int × Int) (hm : r01_Place m s at_ = some r) : Ret Try.prog 21 ⟨[.string ⟨⟨s⟩⟩, .int .i64 at_]⟩ (.tuple ⟨[.int .i64 r.1, .int .i64 r.2.1, .int .i64 r.2.2]⟩) := retP_of (Try.call21 _) (fun w h => r01_Place_w F0 m   s at_ r hm w h)

def law01_InputCleans (m : Nat) (s : Str) (at_ : Int) : Option (Bool) :=
  cond (r01_Great s) (
  some true) (
  lt (cleanF s) fun y7 =>
  Option.bind (r01_Clean m s) fun y10 =>
  Option.bind (input_Lines m s) fun y13 =>
  Option.bind (r01_Lines m s) fun y16 =>
  Option.bind (input_Place m s at_) fun y19 =>
  Option.bind (r01_Place m s at_) fun y22 =>
  lt (cond (y7.1 == y10.1) (y7.2 == y10.2) false) fun x25 =>
  Option.bind (cond x25 (input_Check s) (some default)) fun y26 =>
  Option.bind (cond x25 (r01_Check m s) (some default)) fun y27 =>
  lt (cond (cond x25 (y26 == y27) false) (y13.1 == y16.1) false) fun x28 =>
  lt (cond (cond x28 (y13.2 == y16.2) false) (y19.1 == y22.1) false) fun x29 =>
  lt (cond (cond x29 (y19.2.1 == y22.2.1) false) (y19.2.2 == y22.2.2) false) fun x30 =>
  some x30)
theorem law01_InputCleans_w  (M : Av) (m : Nat) (s : Str) (at_ : Int) (r : Bool) (hm : law01_InputCleans m s at_ = some r) (w : World) (hS : S0 M [] w) : Calls Try.prog 4 ⟨[.string ⟨⟨s⟩⟩, .int .i64 at_]⟩ w (fun e w' => ∃ v, e = .returned v ∧ v = .bool r ∧ SH M (fpl []) w [] w') := by
 rw [law01_InputCleans] at hm
 have hS0 : SH M (fpl []) w [] w := hS
 generalize hX : fpl [] = X at hS0 ⊢
 clear hS hX
 have hS := hS0
 clear hS0
 refine calls_entryP Try.func4 rfl Try.ntmps4 rfl fun _ H => ?_
 refine s_reg [] [0, 1] [(0, [], .string ⟨⟨s⟩⟩), (1, [], .int .i64 at_)] [] H (by kernel_rfl) trivial fun _ wd1 H2 hb => ?_
 clear H
 replace hS := hS.below hb
 clear hb
 refine w_seq ?_
 refine s_reg [(.bool (r01_Great s))] [0, 1, 20] [(0, [], .string ⟨⟨s⟩⟩), (1, [], .int .i64 at_), (20, [], .bool (r01_Great s))] [fun wz => RetB Try.prog 15 ⟨[.string ⟨⟨s⟩⟩]⟩ (.bool (r01_Great s)) wz] H2 (by kernel_rfl) ⟨((r01_Great_ok _).b), trivial⟩ fun _ wd3 H4 hb => ?_
 clear H2
 replace hS := hS.below hb
 clear hb
 refine w_if H4 rfl (fun hc => ?c33) (fun hc => ?_)
 case c33 =>
  replace hm := bT hc hm
  refine s_reg [] [4] [(4, [], .bool true)] [] H4 (by kernel_rfl) trivial fun _ wd5 H6 hb => ?_
  clear H4
  replace hS := hS.below hb
  clear hb
  refine w_ret ?_
  obtain rfl := someE hm
  exact retR1 H6 rfl rfl ⟨_, rfl, rfl, (hS.sel [] rfl)⟩
 replace hm := bF hc hm
 refine w_skip ?_
 obtain ⟨y7, hy7, hm⟩ := letE hm
 refine s_reg [(.tuple ⟨[.string ⟨⟨y7.1⟩⟩, .int .i64 y7.2]⟩)] [0, 1, 5, 6] [(0, [], .string ⟨⟨s⟩⟩), (1, [], .int .i64 at_), (5, [], .string ⟨⟨y7.1⟩⟩), (6, [], .int .i64 y7.2)] [fun wz => RetB Try.prog 16 ⟨[.string ⟨⟨s⟩⟩]⟩ (.tuple ⟨[.string ⟨⟨y7.1⟩⟩, .int .i64 y7.2]⟩) wz] H4 (by subst hy7; kernel_rfl) ⟨((by rw [hy7]; exact (cleanF_ok _).b)), trivial⟩ fun _ wd8 H9 hb => ?_
 clear H4
 replace hS := hS.below hb
 clear hb
 obtain ⟨y10, hy10, hm⟩ := bindE hm
 refine s_reg [(.tuple ⟨[.string ⟨⟨y10.1⟩⟩, .int .i64 y10.2]⟩)] [0, 1, 5, 6, 7, 8] [(0, [], .string ⟨⟨s⟩⟩), (1, [], .int .i64 at_), (5, [], .string ⟨⟨y7.1⟩⟩), (6, [], .int .i64 y7.2), (7, [], .string ⟨⟨y10.1⟩⟩), (8, [], .int .i64 y10.2)] [fun wz => RetB Try.prog 17 ⟨[.string ⟨⟨s⟩⟩]⟩ (.tuple ⟨[.string ⟨⟨y10.1⟩⟩, .int .i64 y10.2]⟩) wz] H9 (by kernel_rfl) ⟨((r01_Clean_ok m _ _ hy10).b), trivial⟩ fun _ wd11 H12 hb => ?_
 clear H9
 replace hS := hS.below hb
 clear hb
 obtain ⟨y13, hy13, hm⟩ := bindE hm
 refine s_reg [(.tuple ⟨[.int .i64 y13.1, .int .i64 y13.2]⟩)] [0, 1, 5, 6, 7, 8, 9, 10] [(0, [], .string ⟨⟨s⟩⟩), (1, [], .int .i64 at_), (5, [], .string ⟨⟨y7.1⟩⟩), (6, [], .int .i64 y7.2), (7, [], .string ⟨⟨y10.1⟩⟩), (8, [], .int .i64 y10.2), (9, [], .int .i64 y13.1), (10, [], .int .i64 y13.2)] [fun wz => RetB Try.prog 18 ⟨[.string ⟨⟨s⟩⟩]⟩ (.tuple ⟨[.int .i64 y13.1, .int .i64 y13.2]⟩) wz] H12 (by kernel_rfl) ⟨((input_Lines_ok m _ _ hy13).b), trivial⟩ fun _ wd14 H15 hb => ?_
 clear H12
 replace hS := hS.below hb
 clear hb
 obtain ⟨y16, hy16, hm⟩ := bindE hm
 refine s_reg [(.tuple ⟨[.int .i64 y16.1, .int .i64 y16.2]⟩)] [0, 1, 5, 6, 7, 8, 9, 10, 11, 12] [(0, [], .string ⟨⟨s⟩⟩), (1, [], .int .i64 at_), (5, [], .string ⟨⟨y7.1⟩⟩), (6, [], .int .i64 y7.2), (7, [], .string ⟨⟨y10.1⟩⟩), (8, [], .int .i64 y10.2), (9, [], .int .i64 y13.1), (10, [], .int .i64 y13.2), (11, [], .int .i64 y16.1), (12, [], .int .i64 y16.2)] [fun wz => RetB Try.prog 19 ⟨[.string ⟨⟨s⟩⟩]⟩ (.tuple ⟨[.int .i64 y16.1, .int .i64 y16.2]⟩) wz] H15 (by kernel_rfl) ⟨((r01_Lines_ok m _ _ hy16).b), trivial⟩ fun _ wd17 H18 hb => ?_
 clear H15
 replace hS := hS.below hb
 clear hb
 obtain ⟨y19, hy19, hm⟩ := bindE hm
 refine s_reg [(.tuple ⟨[.int .i64 y19.1, .int .i64 y19.2.1, .int .i64 y19.2.2]⟩)] [0, 1, 5, 6, 7, 8, 9, 10, 11, 12, 13, 14, 15] [(0, [], .string ⟨⟨s⟩⟩), (1, [], .int .i64 at_), (5, [], .string ⟨⟨y7.1⟩⟩), (6, [], .int .i64 y7.2), (7, [], .string ⟨⟨y10.1⟩⟩), (8, [], .int .i64 y10.2), (9, [], .int .i64 y13.1), (10, [], .int .i64 y13.2), (11, [], .int .i64 y16.1), (12, [], .int .i64 y16.2), (13, [], .int .i64 y19.1), (14, [], .int .i64 y19.2.1), (15, [], .int .i64 y19.2.2)] [fun wz => RetB Try.prog 20 ⟨[.string ⟨⟨s⟩⟩, .int .i64 at_]⟩ (.tuple ⟨[.int .i64 y19.1, .int .i64 y19.2.1, .int .i64 y19.2.2]⟩) wz] H18 (by kernel_rfl) ⟨((input_Place_ok m _ _ _ hy19).b), trivial⟩ fun _ wd20 H21 hb => ?_
 clear H18
 replace hS := hS.below hb
 clear hb
 obtain ⟨y22, hy22, hm⟩ := bindE hm
 refine s_reg [(.tuple ⟨[.int .i64 y22.1, .int .i64 y22.2.1, .int .i64 y22.2.2]⟩)] [0, 5, 6, 7, 8, 9, 10, 11, 12, 13, 14, 15, 16, 17, 18] [(0, [], .string ⟨⟨s⟩⟩), (5, [], .string ⟨⟨y7.1⟩⟩), (6, [], .int .i64 y7.2), (7, [], .string ⟨⟨y10.1⟩⟩), (8, [], .int .i64 y10.2), (9, [], .int .i64 y13.1), (10, [], .int .i64 y13.2), (11, [], .int .i64 y16.1), (12, [], .int .i64 y16.2), (13, [], .int .i64 y19.1), (14, [], .int .i64 y19.2.1), (15, [], .int .i64 y19.2.2), (16, [], .int .i64 y22.1), (17, [], .int .i64 y22.2.1), (18, [], .int .i64 y22.2.2)] [fun wz => RetB Try.prog 21 ⟨[.string ⟨⟨s⟩⟩, .int .i64 at_]⟩ (.tuple ⟨[.int .i64 y22.1, .int .i64 y22.2.1, .int .i64 y22.2.2]⟩) wz] H21 (by kernel_rfl) ⟨((r01_Place_ok m _ _ _ hy22).b), trivial⟩ fun _ wd23 H24 hb => ?_
 clear H21
 replace hS := hS.below hb
 clear hb
 obtain ⟨x25, hx25, hm⟩ := letE hm
 obtain ⟨y26, hy26, hm⟩ := bindE hm
 obtain ⟨y27, hy27, hm⟩ := bindE hm
 obtain ⟨x28, hx28, hm⟩ := letE hm
 obtain ⟨x29, hx29, hm⟩ := letE hm
 obtain ⟨x30, hx30, hm⟩ := letE hm
 refine s_reg [(.int .i64 y26), (.int .i64 y27)] [4] [(4, [], .bool x30)] [fun wz => (x25 = true ∧ True → RetB Try.prog 22 ⟨[.string ⟨⟨s⟩⟩]⟩ (.int .i64 y26) wz), fun wz => (x25 = true ∧ True → RetB Try.prog 23 ⟨[.string ⟨⟨s⟩⟩]⟩ (.int .i64 y27) wz)] H24 (by subst hx25 hx28 hx29 hx30; kernel_rfl) ⟨fun hg => (input_Check_ok _ _ (bT (hg.1) hy26)).b, fun hg => (r01_Check_ok m _ _ (bT (hg.1) hy27)).b, trivial⟩ fun _ wd31 H32 hb => ?_
 clear H24
 replace hS := hS.below hb
 clear hb
 refine w_ret ?_
 obtain rfl := someE hm
 exact retR1 H32 rfl rfl ⟨_, rfl, rfl, (hS.sel [] rfl)⟩
theorem law01_InputCleans_ok  (m : Nat) (s : Str) (at_ : Int) (r : Bool) (hm : law01_InputCleans m s at_ = some r) : Ret Try.prog 4 ⟨[.string ⟨⟨s⟩⟩, .int .i64 at_]⟩ (.bool r) := retP_of (Try.call4 _) (fun w h => law01_InputCleans_w F0 m   s at_ r hm w h)

def input_Lower_L1 (m : Nat) (s : Str) : Nat → Int → (List Int) → Option (List Int)
  | 0, _, _ => none
  | kk + 1, v14, v15 =>
    cond (decide (v14 < (ln (ofB s)))) (
    Option.bind (
    chk (0 ≤ v14 ∧ v14 < ln (ofB s)) <|
    lt (cond (decide (65 ≤ (gi v15 v14))) (decide ((gi v15 v14) ≤ 90)) false) fun x22 =>
    cond x22 (
    lt (seti v15 v14 (ibit .or .u8 (gi v15 v14) 32)) fun q29 =>
    some q29) (
    some v15)) fun (z18 : List Int) =>
    input_Lower_L1 m s kk (w64 (v14 + 1)) z18) (
    some v15)
def input_Lower (m : Nat) (s : Str) : Option (Str) :=
  Option.bind (
  input_Lower_L1 m s m 0 (ofB s)) fun (z11 : List Int) =>
  some (toB z11)
theorem input_Lower_w  (M : Av) (m : Nat) (s : Str) (r : Str) (hm : input_Lower m s = some r) (w : World) (hS : S0 M [] w) : Calls Try.prog 11 ⟨[.string ⟨⟨s⟩⟩]⟩ w (fun e w' => ∃ v, e = .returned v ∧ v = .string ⟨⟨r⟩⟩ ∧ SH M (fpl []) w [] w') := by
 rw [input_Lower] at hm
 have hS0 : SH M (fpl []) w [] w := hS
 generalize hX : fpl [] = X at hS0 ⊢
 clear hS hX
 have hS := hS0
 clear hS0
 refine calls_entryP Try.func11 rfl Try.ntmps11 rfl fun _ H => ?_
 refine s_reg [] [0] [(0, [], .string ⟨⟨s⟩⟩)] [] H (by kernel_rfl) trivial fun _ wd1 H2 hb => ?_
 clear H
 replace hS := hS.below hb
 clear hb
 refine w_seq ?_
 refine wl_start ?_
 refine wl_batch 0 1 [] [6] [(6, [], .string ⟨⟨s⟩⟩)] [] H2 (by decide) (by kernel_rfl) trivial fun _ wd3 H4 hb => ?_
 clear H2
 replace hS := hS.below hb
 clear hb
 have hd := hS.hand [] [] rfl rfl
 refine m_stp [7] [] H4 rfl rfl rfl rfl (o_bytes (E := 5) H4 hd rfl (by kernel_rfl) (by kernel_rfl) (by kernel_rfl)) (fun _ => rfl) fun _ wd7 v H8 hq => ?_
 clear H4 hd
 obtain ⟨b5, c6, rfl, hc_b5, hq⟩ := hq
 replace hS : SH M X w [Ent.row .u8 b5 (ofB s) (ln (ofB s))] _ := hS.join [] [] rfl rfl hq
 clear hq
 refine wl_batch 2 3 [] [3] [(3, [], .slice (some ⟨b5, 0, none⟩) ((ofB s).length) c6)] [] H8 (by decide) (by kernel_rfl) trivial fun _ wd9 H10 hb => ?_
 clear H8
 replace hS := hS.below hb
 clear hb
 refine wl_end rfl ?_
 obtain ⟨z11, hz, hm⟩ := bindE hm
 refine w_cut (fun a' w' => Fr 30 [(3, [], .slice (some ⟨b5, 0, none⟩) ((ofB s).length) c6)] a' ∧ SH M X w [Ent.row .u8 b5 z11 (ln (ofB s))] w') ?_ ?_
 ·replace hm := hz
  refine s_reg [] [3, 8, 9, 10] [(3, [], .slice (some ⟨b5, 0, none⟩) ((ofB s).length) c6), (8, [], .slice (some ⟨b5, 0, none⟩) ((ofB s).length) c6), (9, [], .int .i64 (ln (ofB s))), (10, [], .int .i64 0)] [] H10 (by kernel_rfl) trivial fun _ wd12 H13 hb => ?_
  clear H10
  replace hS := hS.below hb
  clear hb
  refine w_block ?_
  refine w_loop (fun kk a' w' => ∃ (v14 : Int) (v15 : List Int), input_Lower_L1 m s kk v14 v15 = some _ ∧ Fr 30 [(3, [], .slice (some ⟨b5, 0, none⟩) ((ofB s).length) c6), (8, [], .slice (some ⟨b5, 0, none⟩) ((ofB s).length) c6), (9, [], .int .i64 (ln (ofB s))), (10, [], .int .i64 v14)] a' ∧ SH M X w [Ent.row .u8 b5 v15 (ln (ofB s))] w') ⟨_, 0, ofB s, hm, FrG.keep (ks := [3, 8, 9, 10]) H13 (by kernel_rfl), hS⟩ ?_
  clear hm H13 hS
  rintro kk _ wd35 ⟨v14, v15, hm, H, hS⟩
  cases kk with
  | zero => exact noneE hm
  | succ kk =>
   rw [input_Lower_L1] at hm
   refine s_reg [] [3, 8, 9, 10, 11] [(3, [], .slice (some ⟨b5, 0, none⟩) ((ofB s).length) c6), (8, [], .slice (some ⟨b5, 0, none⟩) ((ofB s).length) c6), (9, [], .int .i64 (ln (ofB s))), (10, [], .int .i64 v14), (11, [], .bool (decide (v14 < (ln (ofB s)))))] [] H (by kernel_rfl) trivial fun _ wd16 H17 hb => ?_
   clear H
   replace hS := hS.below hb
   clear hb
   refine w_seq ?_
   refine w_if H17 rfl (fun hc => ?_) (fun hc => ?c34)
   case c34 =>
    replace hm := bF hc hm
    refine w_exit rfl ?_
    obtain rfl := someE hm
    exact ⟨FrG.keep (ks := [3]) H17 (by kernel_rfl), hS⟩
   replace hm := bT hc hm
   refine w_skip ?_
   obtain ⟨z18, hz, hm⟩ := bindE hm
   refine w_cut (fun a' w' => Fr 30 [(3, [], .slice (some ⟨b5, 0, none⟩) ((ofB s).length) c6), (8, [], .slice (some ⟨b5, 0, none⟩) ((ofB s).length) c6), (9, [], .int .i64 (ln (ofB s))), (10, [], .int .i64 v14)] a' ∧ SH M X w [Ent.row .u8 b5 z18 (ln (ofB s))] w') ?_ ?_
   ·replace hm := hz
    refine w_block ?_
    obtain ⟨ho19, hm⟩ := chkE hm
    refine s_reg [(.int .u8 (gi v15 v14))] [3, 4, 5, 8, 9, 10] [(3, [], .slice (some ⟨b5, 0, none⟩) ((ofB s).length) c6), (4, [], .int .i64 v14), (5, [], .int .u8 (gi v15 v14)), (8, [], .slice (some ⟨b5, 0, none⟩) ((ofB s).length) c6), (9, [], .int .i64 (ln (ofB s))), (10, [], .int .i64 v14)] [fun _ => oka (some ⟨b5, 0, none⟩) ∧ 0 ≤ v14 ∧ v14 < ln (ofB s), fun wz => V.at1 ⟨b5, 0 + (v14).toNat * 1, none⟩ (.int .u8 (gi v15 v14)) wz] H17 (by kernel_rfl) ⟨(⟨rfl, ho19⟩), (Rw.ixn (hS.rw 0 rfl) ho19), trivial⟩ fun _ wd20 H21 hb => ?_
    clear H17
    replace hS := hS.below hb
    clear hb
    obtain ⟨x22, hx22, hm⟩ := letE hm
    refine s_reg [] [3, 4, 8, 9, 10, 20] [(3, [], .slice (some ⟨b5, 0, none⟩) ((ofB s).length) c6), (4, [], .int .i64 v14), (8, [], .slice (some ⟨b5, 0, none⟩) ((ofB s).length) c6), (9, [], .int .i64 (ln (ofB s))), (10, [], .int .i64 v14), (20, [], .bool x22)] [] H21 (by subst hx22; kernel_rfl) trivial fun _ wd23 H24 hb => ?_
    clear H21
    replace hS := hS.below hb
    clear hb
    refine w_if H24 rfl (fun hc => ?_) (fun hc => ?c30)
    case c30 =>
     replace hm := bF hc hm
     refine w_skip ?_
     obtain rfl := someE hm
     exact ⟨FrG.keep (ks := [3, 8, 9, 10]) H24 (by kernel_rfl), hS⟩
    replace hm := bT hc hm
    refine wl_start ?_
    refine wl_batch 0 6 [(.int .u8 (gi v15 v14))] [3, 8, 9, 10, 25, 26] [(3, [], .slice (some ⟨b5, 0, none⟩) ((ofB s).length) c6), (8, [], .slice (some ⟨b5, 0, none⟩) ((ofB s).length) c6), (9, [], .int .i64 (ln (ofB s))), (10, [], .int .i64 v14), (25, [], .int .u8 (ibit .or .u8 (gi v15 v14) 32)), (26, [], .pointer (some ⟨b5, 0 + (v14).toNat * 1, none⟩))] [fun _ => oka (some ⟨b5, 0, none⟩) ∧ 0 ≤ v14 ∧ v14 < ln (ofB s), fun wz => V.at1 ⟨b5, 0 + (v14).toNat * 1, none⟩ (.int .u8 (gi v15 v14)) wz, fun _ => oka (some ⟨b5, 0, none⟩) ∧ 0 ≤ v14 ∧ v14 < ln (ofB s)] H24 (by decide) (by kernel_rfl) ⟨(⟨rfl, ho19⟩), (Rw.ixn (hS.rw 0 rfl) ho19), (⟨rfl, ho19⟩), trivial⟩ fun _ wd25 H26 hb => ?_
    clear H24
    replace hS := hS.below hb
    clear hb
    have hd := hS.hand [0] [] rfl rfl
    refine m_stp0 [3, 8, 9, 10] [(3, [], .slice (some ⟨b5, 0, none⟩) ((ofB s).length) c6), (8, [], .slice (some ⟨b5, 0, none⟩) ((ofB s).length) c6), (9, [], .int .i64 (ln (ofB s))), (10, [], .int .i64 v14)] H26 rfl rfl rfl (o_rstore H26 hd rfl rfl (by kernel_rfl) ho19) rfl fun _ wd27 H28 hq => ?_
    clear H26 hd
    obtain ⟨_, hq⟩ := hq
    obtain ⟨q29, hq29, hm⟩ := letE hm
    rw [← hq29] at hq
    replace hS : SH M X w [Ent.row .u8 b5 q29 (ln (ofB s))] _ := hS.join [0] [] rfl rfl hq
    clear hq
    refine wl_end rfl ?_
    obtain rfl := someE hm
    exact ⟨FrG.keep (ks := [3, 8, 9, 10]) H28 (by kernel_rfl), hS⟩
   ·rintro _ wd33 ⟨H, hS⟩
    refine w_reg [] [3, 8, 9, 10] [(3, [], .slice (some ⟨b5, 0, none⟩) ((ofB s).length) c6), (8, [], .slice (some ⟨b5, 0, none⟩) ((ofB s).length) c6), (9, [], .int .i64 (ln (ofB s))), (10, [], .int .i64 (w64 (v14 + 1)))] [] H (by kernel_rfl) trivial fun _ wd31 H32 hb => ?_
    clear H
    replace hS := hS.below hb
    clear hb
    exact ⟨_, Nat.lt_succ_self _, w64 (v14 + 1), z18, hm, FrG.keep (ks := [3, 8, 9, 10]) H32 (by kernel_rfl), hS⟩
 ·rintro _ wd38 ⟨H, hS⟩
  refine s_reg [(.string ⟨⟨toB z11⟩⟩)] [2] [(2, [], .string ⟨⟨toB z11⟩⟩)] [fun wz => ∀ w', Below wz.heap.size wz w' → (convert 41 9 (.slice (some ⟨b5, 0, none⟩) ((ofB s).length) c6)).run Try.prog w' = .ok (.string ⟨⟨toB z11⟩⟩) w'] H (by kernel_rfl) ⟨(conv_row (E := 5) (by kernel_rfl) (by kernel_rfl) (by kernel_rfl) (hS.rw 0 rfl).1 (hS.rw 0 rfl).2), trivial⟩ fun _ wd36 H37 hb => ?_
  clear H
  replace hS := hS.below hb
  clear hb
  replace hS : SH M X w [] _ := hS.sel [] rfl
  refine w_ret ?_
  obtain rfl := someE hm
  exact retR1 H37 rfl rfl ⟨_, rfl, rfl, (hS.sel [] rfl)⟩
theorem input_Lower_ok  (m : Nat) (s : Str) (r : Str) (hm : input_Lower m s = some r) : Ret Try.prog 11 ⟨[.string ⟨⟨s⟩⟩]⟩ (.string ⟨⟨r⟩⟩) := retP_of (Try.call11 _) (fun w h => input_Lower_w F0 m   s r hm w h)

def input_Alike (m : Nat) (a_ : Str) (b_ : Str) : Option (Bool) :=
  Option.bind (input_Lower m a_) fun y3 =>
  Option.bind (input_Lower m b_) fun y4 =>
  some (y3 == y4)
theorem input_Alike_w  (M : Av) (m : Nat) (a_ : Str) (b_ : Str) (r : Bool) (hm : input_Alike m a_ b_ = some r) (w : World) (hS : S0 M [] w) : Calls Try.prog 13 ⟨[.string ⟨⟨a_⟩⟩, .string ⟨⟨b_⟩⟩]⟩ w (fun e w' => ∃ v, e = .returned v ∧ v = .bool r ∧ SH M (fpl []) w [] w') := by
 rw [input_Alike] at hm
 have hS0 : SH M (fpl []) w [] w := hS
 generalize hX : fpl [] = X at hS0 ⊢
 clear hS hX
 have hS := hS0
 clear hS0
 refine calls_entryP Try.func13 rfl Try.ntmps13 rfl fun _ H => ?_
 refine s_reg [] [0, 1] [(0, [], .string ⟨⟨a_⟩⟩), (1, [], .string ⟨⟨b_⟩⟩)] [] H (by kernel_rfl) trivial fun _ wd1 H2 hb => ?_
 clear H
 replace hS := hS.below hb
 clear hb
 obtain ⟨y3, hy3, hm⟩ := bindE hm
 obtain ⟨y4, hy4, hm⟩ := bindE hm
 refine s_reg [(.string ⟨⟨y3⟩⟩), (.string ⟨⟨y4⟩⟩)] [4] [(4, [], .bool (y3 == y4))] [fun wz => RetB Try.prog 11 ⟨[.string ⟨⟨a_⟩⟩]⟩ (.string ⟨⟨y3⟩⟩) wz, fun wz => RetB Try.prog 11 ⟨[.string ⟨⟨b_⟩⟩]⟩ (.string ⟨⟨y4⟩⟩) wz] H2 (by kernel_rfl) ⟨((input_Lower_ok m _ _ hy3).b), ((input_Lower_ok m _ _ hy4).b), trivial⟩ fun _ wd5 H6 hb => ?_
 clear H2
 replace hS := hS.below hb
 clear hb
 refine w_ret ?_
 obtain rfl := someE hm
 exact retR1 H6 rfl rfl ⟨_, rfl, rfl, (hS.sel [] rfl)⟩
theorem input_Alike_ok  (m : Nat) (a_ : Str) (b_ : Str) (r : Bool) (hm : input_Alike m a_ b_ = some r) : Ret Try.prog 13 ⟨[.string ⟨⟨a_⟩⟩, .string ⟨⟨b_⟩⟩]⟩ (.bool r) := retP_of (Try.call13 _) (fun w h => input_Alike_w F0 m   a_ b_ r hm w h)

def law01_alive (m : Nat)  : Option (Bool) :=
  lt (cleanF [97, 13, 10, 12, 13, 0, 98]) fun y3 =>
  Option.bind (input_Lines m y3.1) fun y6 =>
  Option.bind (input_Place m y3.1 7) fun y9 =>
  lt (cond (y3.2 == 0) (y3.1 == [97, 10, 10, 10, 239, 191, 189, 98]) false) fun x12 =>
  lt (cond (cond x12 (y6.2 == 0) false) (y6.1 == 4) false) fun x13 =>
  lt (cond (cond x13 (y9.2.2 == 0) false) (y9.1 == 4) false) fun x14 =>
  Option.bind (cond (cond x14 (y9.2.1 == 4) false) (input_Lower m [65, 98]) (some default)) fun y15 =>
  lt (cond (cond x14 (y9.2.1 == 4) false) (y15 == [97, 98]) false) fun x16 =>
  Option.bind (cond x16 (input_Alike m [65, 98] [97, 66]) (some default)) fun y17 =>
  some (cond x16 y17 false)
theorem law01_alive_w  (M : Av) (m : Nat)  (r : Bool) (hm : law01_alive m = some r) (w : World) (hS : S0 M [] w) : Calls Try.prog 24 ⟨[]⟩ w (fun e w' => ∃ v, e = .returned v ∧ v = .bool r ∧ SH M (fpl []) w [] w') := by
 rw [law01_alive] at hm
 have hS0 : SH M (fpl []) w [] w := hS
 generalize hX : fpl [] = X at hS0 ⊢
 clear hS hX
 have hS := hS0
 clear hS0
 refine calls_entryP Try.func24 rfl Try.ntmps24 rfl fun _ H => ?_
 refine s_reg [] [] [] [] H (by kernel_rfl) trivial fun _ wd1 H2 hb => ?_
 clear H
 replace hS := hS.below hb
 clear hb
 obtain ⟨y3, hy3, hm⟩ := letE hm
 refine s_reg [(.tuple ⟨[.string ⟨⟨y3.1⟩⟩, .int .i64 y3.2]⟩)] [1, 2] [(1, [], .string ⟨⟨y3.1⟩⟩), (2, [], .int .i64 y3.2)] [fun wz => RetB Try.prog 16 ⟨[.string ⟨⟨[97, 13, 10, 12, 13, 0, 98]⟩⟩]⟩ (.tuple ⟨[.string ⟨⟨y3.1⟩⟩, .int .i64 y3.2]⟩) wz] H2 (by subst hy3; kernel_rfl) ⟨((by rw [hy3]; exact (cleanF_ok _).b)), trivial⟩ fun _ wd4 H5 hb => ?_
 clear H2
 replace hS := hS.below hb
 clear hb
 obtain ⟨y6, hy6, hm⟩ := bindE hm
 refine s_reg [(.tuple ⟨[.int .i64 y6.1, .int .i64 y6.2]⟩)] [1, 2, 3, 4] [(1, [], .string ⟨⟨y3.1⟩⟩), (2, [], .int .i64 y3.2), (3, [], .int .i64 y6.1), (4, [], .int .i64 y6.2)] [fun wz => RetB Try.prog 18 ⟨[.string ⟨⟨y3.1⟩⟩]⟩ (.tuple ⟨[.int .i64 y6.1, .int .i64 y6.2]⟩) wz] H5 (by kernel_rfl) ⟨((input_Lines_ok m _ _ hy6).b), trivial⟩ fun _ wd7 H8 hb => ?_
 clear H5
 replace hS := hS.below hb
 clear hb
 obtain ⟨y9, hy9, hm⟩ := bindE hm
 refine s_reg [(.tuple ⟨[.int .i64 y9.1, .int .i64 y9.2.1, .int .i64 y9.2.2]⟩)] [1, 2, 3, 4, 5, 6, 7] [(1, [], .string ⟨⟨y3.1⟩⟩), (2, [], .int .i64 y3.2), (3, [], .int .i64 y6.1), (4, [], .int .i64 y6.2), (5, [], .int .i64 y9.1), (6, [], .int .i64 y9.2.1), (7, [], .int .i64 y9.2.2)] [fun wz => RetB Try.prog 20 ⟨[.string ⟨⟨y3.1⟩⟩, .int .i64 7]⟩ (.tuple ⟨[.int .i64 y9.1, .int .i64 y9.2.1, .int .i64 y9.2.2]⟩) wz] H8 (by kernel_rfl) ⟨((input_Place_ok m _ _ _ hy9).b), trivial⟩ fun _ wd10 H11 hb => ?_
 clear H8
 replace hS := hS.below hb
 clear hb
 obtain ⟨x12, hx12, hm⟩ := letE hm
 obtain ⟨x13, hx13, hm⟩ := letE hm
 obtain ⟨x14, hx14, hm⟩ := letE hm
 obtain ⟨y15, hy15, hm⟩ := bindE hm
 obtain ⟨x16, hx16, hm⟩ := letE hm
 obtain ⟨y17, hy17, hm⟩ := bindE hm
 refine s_reg [(.string ⟨⟨y15⟩⟩), (.bool y17)] [0] [(0, [], .bool (cond x16 y17 false))] [fun wz => ((cond x14 (y9.2.1 == 4) false) = true ∧ True → RetB Try.prog 11 ⟨[.string ⟨⟨[65, 98]⟩⟩]⟩ (.string ⟨⟨y15⟩⟩) wz), fun wz => (x16 = true ∧ True → RetB Try.prog 13 ⟨[.string ⟨⟨[65, 98]⟩⟩, .string ⟨⟨[97, 66]⟩⟩]⟩ (.bool y17) wz)] H11 (by subst hx12 hx13 hx14 hx16; kernel_rfl) ⟨fun hg => (input_Lower_ok m _ _ (bT (hg.1) hy15)).b, fun hg => (input_Alike_ok m _ _ _ (bT (hg.1) hy17)).b, trivial⟩ fun _ wd18 H19 hb => ?_
 clear H11
 replace hS := hS.below hb
 clear hb
 refine w_ret ?_
 obtain rfl := someE hm
 exact retR1 H19 rfl rfl ⟨_, rfl, rfl, (hS.sel [] rfl)⟩
theorem law01_alive_ok  (m : Nat)  (r : Bool) (hm : law01_alive m = some r) : Ret Try.prog 24 ⟨[]⟩ (.bool r) := retP_of (Try.call24 _) (fun w h => law01_alive_w F0 m    r hm w h)

def law01_InputNames (m : Nat)  : Option (Bool) :=
  chk (0 ≤ (4001 : Int) ∧ (4001 : Int) ≤ (4001 : Int) ∧ (4001 : Int) ≤ 1099511627776) <|
  lt (List.replicate ((4001 : Int)).toNat (0 : Int)) fun q4 =>
  lt (cleanF (toB q4)) fun y11 =>
  chk (0 ≤ (4000 : Int) ∧ (4000 : Int) ≤ ln (toB q4)) <|
  lt (cleanF (sub (toB q4) 0 4000)) fun y15 =>
  Option.bind (input_Check (toB q4)) fun y18 =>
  chk (0 ≤ (12001 : Int) ∧ (12001 : Int) ≤ (12001 : Int) ∧ (12001 : Int) ≤ 1099511627776) <|
  lt (List.replicate ((12001 : Int)).toNat (0 : Int)) fun q22 =>
  Option.bind (input_Check (toB q22)) fun y27 =>
  Option.bind (input_Lines m [97, 13]) fun y30 =>
  Option.bind (input_Place m [12] (-1)) fun y33 =>
  Option.bind (input_Place m [97, 98] 3) fun y36 =>
  Option.bind (input_Place m [97, 98] (-1)) fun y39 =>
  Option.bind (input_Place m [97, 98, 10] 3) fun y42 =>
  Option.bind (input_Lines m []) fun y45 =>
  lt (cleanF []) fun y48 =>
  lt (cond (cond (y11.2 == 28) (y15.2 == 0) false) ((ln y15.1) == 12000) false) fun x51 =>
  Option.bind (cond x51 (input_Check y15.1) (some default)) fun y52 =>
  lt (cond (cond x51 (y52 == 0) false) (y18 == 8) false) fun x53 =>
  lt (cond (cond x53 (y27 == 28) false) (y30.2 == 8) false) fun x54 =>
  lt (cond (cond x54 (y33.2.2 == 8) false) (y36.2.2 == 2) false) fun x55 =>
  lt (cond (cond x55 (y39.2.2 == 2) false) (y42.2.2 == 0) false) fun x56 =>
  lt (cond (cond x56 (y42.1 == 2) false) (y42.2.1 == 1) false) fun x57 =>
  lt (cond (cond x57 (y45.2 == 0) false) (y45.1 == 1) false) fun x58 =>
  lt (cond (cond x58 (y48.2 == 0) false) (y48.1 == []) false) fun x59 =>
  Option.bind (cond x59 (input_Lower m [64, 65, 90, 91, 193]) (some default)) fun y60 =>
  lt (cond x59 (y60 == [64, 97, 122, 91, 193]) false) fun x61 =>
  Option.bind (cond x61 (input_Alike m [64] [96]) (some default)) fun y62 =>
  Option.bind (cond (cond x61 (!y62) false) (input_Alike m [193] [225]) (some default)) fun y63 =>
  lt (cond (cond x61 (!y62) false) (!y63) false) fun x64 =>
  Option.bind (cond x64 (law01_alive m) (some default)) fun y65 =>
  some (cond x64 y65 false)
theorem law01_InputNames_w  (M : Av) (m : Nat)  (r : Bool) (hm : law01_InputNames m = some r) (w : World) (hS : S0 M [] w) : Calls Try.prog 5 ⟨[]⟩ w (fun e w' => ∃ v, e = .returned v ∧ v = .bool r ∧ SH M (fpl []) w [] w') := by
 rw [law01_InputNames] at hm
 have hS0 : SH M (fpl []) w [] w := hS
 generalize hX : fpl [] = X at hS0 ⊢
 clear hS hX
 have hS := hS0
 clear hS0
 refine calls_entryP Try.func5 rfl Try.ntmps5 rfl fun _ H => ?_
 refine s_reg [] [] [] [] H (by kernel_rfl) trivial fun _ wd1 H2 hb => ?_
 clear H
 replace hS := hS.below hb
 clear hb
 refine w_seq ?_
 refine wl_start ?_
 obtain ⟨ho3, hm⟩ := chkE hm
 obtain ⟨q4, hq4, hm⟩ := letE hm
 have hd := hS.hand [] [] rfl rfl
 refine m_stp [26] [] H2 rfl rfl rfl rfl (o_make (T := (tI .u8)) (E := 5) (zv := .int .u8 0) (0 : Int) H2 hd rfl rfl (by kernel_rfl) (by kernel_rfl) rfl rfl (fun _ _ => trivial) ho3) (fun _ => rfl) fun _ wd5 v H6 hq => ?_
 clear H2 hd
 obtain ⟨g7, rfl, hq⟩ := hq
 rw [← hq4] at hq
 rw [← hq4] at H6
 replace hS : SH M X w [Ent.own 5 (tI .u8) q4 g7] _ := hS.join [] [] rfl rfl hq
 clear hq
 refine wl_batch 1 3 [(.string ⟨⟨toB q4⟩⟩)] [1] [(1, [], .string ⟨⟨toB q4⟩⟩)] [fun wz => ∀ w', Below wz.heap.size wz w' → (convert 41 9 (.slice g7.a q4.length g7.c)).run Try.prog w' = .ok (.string ⟨⟨toB q4⟩⟩) w'] H6 (by decide) (by kernel_rfl) ⟨(conv_slG (E := 5) (by kernel_rfl) (by kernel_rfl) (by kernel_rfl) (hS.osl 0 rfl)), trivial⟩ fun _ wd9 H10 hb => ?_
 clear H6
 replace hS := hS.below hb
 clear hb
 refine wl_end rfl ?_
 replace hS : SH M X w [] _ := hS.sel [] rfl
 obtain ⟨y11, hy11, hm⟩ := letE hm
 refine s_reg [(.tuple ⟨[.string ⟨⟨y11.1⟩⟩, .int .i64 y11.2]⟩)] [1, 3] [(1, [], .string ⟨⟨toB q4⟩⟩), (3, [], .int .i64 y11.2)] [fun wz => RetB Try.prog 16 ⟨[.string ⟨⟨toB q4⟩⟩]⟩ (.tuple ⟨[.string ⟨⟨y11.1⟩⟩, .int .i64 y11.2]⟩) wz] H10 (by subst hy11; kernel_rfl) ⟨((by rw [hy11]; exact (cleanF_ok _).b)), trivial⟩ fun _ wd12 H13 hb => ?_
 clear H10
 replace hS := hS.below hb
 clear hb
 obtain ⟨ho14, hm⟩ := chkE hm
 obtain ⟨y15, hy15, hm⟩ := letE hm
 refine s_reg [(.tuple ⟨[.string ⟨⟨y15.1⟩⟩, .int .i64 y15.2]⟩)] [1, 3, 4, 5] [(1, [], .string ⟨⟨toB q4⟩⟩), (3, [], .int .i64 y11.2), (4, [], .string ⟨⟨y15.1⟩⟩), (5, [], .int .i64 y15.2)] [fun _ => 0 ≤ (4000 : Int) ∧ (4000 : Int) ≤ ln (toB q4), fun wz => RetB Try.prog 16 ⟨[.string ⟨⟨sub (toB q4) 0 4000⟩⟩]⟩ (.tuple ⟨[.string ⟨⟨y15.1⟩⟩, .int .i64 y15.2]⟩) wz] H13 (by subst hy15; kernel_rfl) ⟨ho14, ((by rw [hy15]; exact (cleanF_ok _).b)), trivial⟩ fun _ wd16 H17 hb => ?_
 clear H13
 replace hS := hS.below hb
 clear hb
 obtain ⟨y18, hy18, hm⟩ := bindE hm
 refine s_reg [(.int .i64 y18)] [3, 4, 5, 6] [(3, [], .int .i64 y11.2), (4, [], .string ⟨⟨y15.1⟩⟩), (5, [], .int .i64 y15.2), (6, [], .int .i64 y18)] [fun wz => RetB Try.prog 22 ⟨[.string ⟨⟨toB q4⟩⟩]⟩ (.int .i64 y18) wz] H17 (by kernel_rfl) ⟨((input_Check_ok _ _ hy18).b), trivial⟩ fun _ wd19 H20 hb => ?_
 clear H17
 replace hS := hS.below hb
 clear hb
 refine w_seq ?_
 refine wl_start ?_
 obtain ⟨ho21, hm⟩ := chkE hm
 obtain ⟨q22, hq22, hm⟩ := letE hm
 have hd := hS.hand [] [] rfl rfl
 refine m_stp [41, 3, 4, 5, 6] [(3, [], .int .i64 y11.2), (4, [], .string ⟨⟨y15.1⟩⟩), (5, [], .int .i64 y15.2), (6, [], .int .i64 y18)] H20 rfl rfl rfl rfl (o_make (T := (tI .u8)) (E := 5) (zv := .int .u8 0) (0 : Int) H20 hd rfl rfl (by kernel_rfl) (by kernel_rfl) rfl rfl (fun _ _ => trivial) ho21) (fun _ => rfl) fun _ wd23 v H24 hq => ?_
 clear H20 hd
 obtain ⟨g25, rfl, hq⟩ := hq
 rw [← hq22] at hq
 rw [← hq22] at H24
 replace hS : SH M X w [Ent.own 5 (tI .u8) q22 g25] _ := hS.join [] [] rfl rfl hq
 clear hq
 obtain ⟨y27, hy27, hm⟩ := bindE hm
 refine wl_batch 1 4 [(.string ⟨⟨toB q22⟩⟩), (.int .i64 y27)] [3, 4, 5, 6, 7] [(3, [], .int .i64 y11.2), (4, [], .string ⟨⟨y15.1⟩⟩), (5, [], .int .i64 y15.2), (6, [], .int .i64 y18), (7, [], .int .i64 y27)] [fun wz => ∀ w', Below wz.heap.size wz w' → (convert 41 9 (.slice g25.a q22.length g25.c)).run Try.prog w' = .ok (.string ⟨⟨toB q22⟩⟩) w', fun wz => RetB Try.prog 22 ⟨[.string ⟨⟨toB q22⟩⟩]⟩ (.int .i64 y27) wz] H24 (by decide) (by kernel_rfl) ⟨(conv_slG (E := 5) (by kernel_rfl) (by kernel_rfl) (by kernel_rfl) (hS.osl 0 rfl)), ((input_Check_ok _ _ hy27).b), trivial⟩ fun _ wd28 H29 hb => ?_
 clear H24
 replace hS := hS.below hb
 clear hb
 refine wl_end rfl ?_
 replace hS : SH M X w [] _ := hS.sel [] rfl
 obtain ⟨y30, hy30, hm⟩ := bindE hm
 refine s_reg [(.tuple ⟨[.int .i64 y30.1, .int .i64 y30.2]⟩)] [3, 4, 5, 6, 7, 9] [(3, [], .int .i64 y11.2), (4, [], .string ⟨⟨y15.1⟩⟩), (5, [], .int .i64 y15.2), (6, [], .int .i64 y18), (7, [], .int .i64 y27), (9, [], .int .i64 y30.2)] [fun wz => RetB Try.prog 18 ⟨[.string ⟨⟨[97, 13]⟩⟩]⟩ (.tuple ⟨[.int .i64 y30.1, .int .i64 y30.2]⟩) wz] H29 (by kernel_rfl) ⟨((input_Lines_ok m _ _ hy30).b), trivial⟩ fun _ wd31 H32 hb => ?_
 clear H29
 replace hS := hS.below hb
 clear hb
 obtain ⟨y33, hy33, hm⟩ := bindE hm
 refine s_reg [(.tuple ⟨[.int .i64 y33.1, .int .i64 y33.2.1, .int .i64 y33.2.2]⟩)] [3, 4, 5, 6, 7, 9, 12] [(3, [], .int .i64 y11.2), (4, [], .string ⟨⟨y15.1⟩⟩), (5, [], .int .i64 y15.2), (6, [], .int .i64 y18), (7, [], .int .i64 y27), (9, [], .int .i64 y30.2), (12, [], .int .i64 y33.2.2)] [fun wz => RetB Try.prog 20 ⟨[.string ⟨⟨[12]⟩⟩, .int .i64 (-1)]⟩ (.tuple ⟨[.int .i64 y33.1, .int .i64 y33.2.1, .int .i64 y33.2.2]⟩) wz] H32 (by kernel_rfl) ⟨((input_Place_ok m _ _ _ hy33).b), trivial⟩ fun _ wd34 H35 hb => ?_
 clear H32
 replace hS := hS.below hb
 clear hb
 obtain ⟨y36, hy36, hm⟩ := bindE hm
 refine s_reg [(.tuple ⟨[.int .i64 y36.1, .int .i64 y36.2.1, .int .i64 y36.2.2]⟩)] [3, 4, 5, 6, 7, 9, 12, 15] [(3, [], .int .i64 y11.2), (4, [], .string ⟨⟨y15.1⟩⟩), (5, [], .int .i64 y15.2), (6, [], .int .i64 y18), (7, [], .int .i64 y27), (9, [], .int .i64 y30.2), (12, [], .int .i64 y33.2.2), (15, [], .int .i64 y36.2.2)] [fun wz => RetB Try.prog 20 ⟨[.string ⟨⟨[97, 98]⟩⟩, .int .i64 3]⟩ (.tuple ⟨[.int .i64 y36.1, .int .i64 y36.2.1, .int .i64 y36.2.2]⟩) wz] H35 (by kernel_rfl) ⟨((input_Place_ok m _ _ _ hy36).b), trivial⟩ fun _ wd37 H38 hb => ?_
 clear H35
 replace hS := hS.below hb
 clear hb
 obtain ⟨y39, hy39, hm⟩ := bindE hm
 refine s_reg [(.tuple ⟨[.int .i64 y39.1, .int .i64 y39.2.1, .int .i64 y39.2.2]⟩)] [3, 4, 5, 6, 7, 9, 12, 15, 18] [(3, [], .int .i64 y11.2), (4, [], .string ⟨⟨y15.1⟩⟩), (5, [], .int .i64 y15.2), (6, [], .int .i64 y18), (7, [], .int .i64 y27), (9, [], .int .i64 y30.2), (12, [], .int .i64 y33.2.2), (15, [], .int .i64 y36.2.2), (18, [], .int .i64 y39.2.2)] [fun wz => RetB Try.prog 20 ⟨[.string ⟨⟨[97, 98]⟩⟩, .int .i64 (-1)]⟩ (.tuple ⟨[.int .i64 y39.1, .int .i64 y39.2.1, .int .i64 y39.2.2]⟩) wz] H38 (by kernel_rfl) ⟨((input_Place_ok m _ _ _ hy39).b), trivial⟩ fun _ wd40 H41 hb => ?_
 clear H38
 replace hS := hS.below hb
 clear hb
 obtain ⟨y42, hy42, hm⟩ := bindE hm
 refine s_reg [(.tuple ⟨[.int .i64 y42.1, .int .i64 y42.2.1, .int .i64 y42.2.2]⟩)] [3, 4, 5, 6, 7, 9, 12, 15, 18, 19, 20, 21] [(3, [], .int .i64 y11.2), (4, [], .string ⟨⟨y15.1⟩⟩), (5, [], .int .i64 y15.2), (6, [], .int .i64 y18), (7, [], .int .i64 y27), (9, [], .int .i64 y30.2), (12, [], .int .i64 y33.2.2), (15, [], .int .i64 y36.2.2), (18, [], .int .i64 y39.2.2), (19, [], .int .i64 y42.1), (20, [], .int .i64 y42.2.1), (21, [], .int .i64 y42.2.2)] [fun wz => RetB Try.prog 20 ⟨[.string ⟨⟨[97, 98, 10]⟩⟩, .int .i64 3]⟩ (.tuple ⟨[.int .i64 y42.1, .int .i64 y42.2.1, .int .i64 y42.2.2]⟩) wz] H41 (by kernel_rfl) ⟨((input_Place_ok m _ _ _ hy42).b), trivial⟩ fun _ wd43 H44 hb => ?_
 clear H41
 replace hS := hS.below hb
 clear hb
 obtain ⟨y45, hy45, hm⟩ := bindE hm
 refine s_reg [(.tuple ⟨[.int .i64 y45.1, .int .i64 y45.2]⟩)] [3, 4, 5, 6, 7, 9, 12, 15, 18, 19, 20, 21, 22, 23] [(3, [], .int .i64 y11.2), (4, [], .string ⟨⟨y15.1⟩⟩), (5, [], .int .i64 y15.2), (6, [], .int .i64 y18), (7, [], .int .i64 y27), (9, [], .int .i64 y30.2), (12, [], .int .i64 y33.2.2), (15, [], .int .i64 y36.2.2), (18, [], .int .i64 y39.2.2), (19, [], .int .i64 y42.1), (20, [], .int .i64 y42.2.1), (21, [], .int .i64 y42.2.2), (22, [], .int .i64 y45.1), (23, [], .int .i64 y45.2)] [fun wz => RetB Try.prog 18 ⟨[.string ⟨⟨[]⟩⟩]⟩ (.tuple ⟨[.int .i64 y45.1, .int .i64 y45.2]⟩) wz] H44 (by kernel_rfl) ⟨((input_Lines_ok m _ _ hy45).b), trivial⟩ fun _ wd46 H47 hb => ?_
 clear H44
 replace hS := hS.below hb
 clear hb
 obtain ⟨y48, hy48, hm⟩ := letE hm
 refine s_reg [(.tuple ⟨[.string ⟨⟨y48.1⟩⟩, .int .i64 y48.2]⟩)] [3, 4, 5, 6, 7, 9, 12, 15, 18, 19, 20, 21, 22, 23, 24, 25] [(3, [], .int .i64 y11.2), (4, [], .string ⟨⟨y15.1⟩⟩), (5, [], .int .i64 y15.2), (6, [], .int .i64 y18), (7, [], .int .i64 y27), (9, [], .int .i64 y30.2), (12, [], .int .i64 y33.2.2), (15, [], .int .i64 y36.2.2), (18, [], .int .i64 y39.2.2), (19, [], .int .i64 y42.1), (20, [], .int .i64 y42.2.1), (21, [], .int .i64 y42.2.2), (22, [], .int .i64 y45.1), (23, [], .int .i64 y45.2), (24, [], .string ⟨⟨y48.1⟩⟩), (25, [], .int .i64 y48.2)] [fun wz => RetB Try.prog 16 ⟨[.string ⟨⟨[]⟩⟩]⟩ (.tuple ⟨[.string ⟨⟨y48.1⟩⟩, .int .i64 y48.2]⟩) wz] H47 (by subst hy48; kernel_rfl) ⟨((by rw [hy48]; exact (cleanF_ok _).b)), trivial⟩ fun _ wd49 H50 hb => ?_
 clear H47
 replace hS := hS.below hb
 clear hb
 obtain ⟨x51, hx51, hm⟩ := letE hm
 obtain ⟨y52, hy52, hm⟩ := bindE hm
 obtain ⟨x53, hx53, hm⟩ := letE hm
 obtain ⟨x54, hx54, hm⟩ := letE hm
 obtain ⟨x55, hx55, hm⟩ := letE hm
 obtain ⟨x56, hx56, hm⟩ := letE hm
 obtain ⟨x57, hx57, hm⟩ := letE hm
 obtain ⟨x58, hx58, hm⟩ := letE hm
 obtain ⟨x59, hx59, hm⟩ := letE hm
 obtain ⟨y60, hy60, hm⟩ := bindE hm
 obtain ⟨x61, hx61, hm⟩ := letE hm
 obtain ⟨y62, hy62, hm⟩ := bindE hm
 obtain ⟨y63, hy63, hm⟩ := bindE hm
 obtain ⟨x64, hx64, hm⟩ := letE hm
 obtain ⟨y65, hy65, hm⟩ := bindE hm
 refine s_reg [(.int .i64 y52), (.string ⟨⟨y60⟩⟩), (.bool y62), (.bool y63), (.bool y65)] [0] [(0, [], .bool (cond x64 y65 false))] [fun wz => (x51 = true ∧ True → RetB Try.prog 22 ⟨[.string ⟨⟨y15.1⟩⟩]⟩ (.int .i64 y52) wz), fun wz => (x59 = true ∧ True → RetB Try.prog 11 ⟨[.string ⟨⟨[64, 65, 90, 91, 193]⟩⟩]⟩ (.string ⟨⟨y60⟩⟩) wz), fun wz => (x61 = true ∧ True → RetB Try.prog 13 ⟨[.string ⟨⟨[64]⟩⟩, .string ⟨⟨[96]⟩⟩]⟩ (.bool y62) wz), fun wz => ((cond x61 (!y62) false) = true ∧ True → RetB Try.prog 13 ⟨[.string ⟨⟨[193]⟩⟩, .string ⟨⟨[225]⟩⟩]⟩ (.bool y63) wz), fun wz => (x64 = true ∧ True → RetB Try.prog 24 ⟨[]⟩ (.bool y65) wz)] H50 (by subst hx51 hx53 hx54 hx55 hx56 hx57 hx58 hx59 hx61 hx64; kernel_rfl) ⟨fun hg => (input_Check_ok _ _ (bT (hg.1) hy52)).b, fun hg => (input_Lower_ok m _ _ (bT (hg.1) hy60)).b, fun hg => (input_Alike_ok m _ _ _ (bT (hg.1) hy62)).b, fun hg => (input_Alike_ok m _ _ _ (bT (hg.1) hy63)).b, fun hg => (law01_alive_ok m _ (bT (hg.1) hy65)).b, trivial⟩ fun _ wd66 H67 hb => ?_
 clear H50
 replace hS := hS.below hb
 clear hb
 refine w_ret ?_
 obtain rfl := someE hm
 exact retR1 H67 rfl rfl ⟨_, rfl, rfl, (hS.sel [] rfl)⟩
theorem law01_InputNames_ok  (m : Nat)  (r : Bool) (hm : law01_InputNames m = some r) : Ret Try.prog 5 ⟨[]⟩ (.bool r) := retP_of (Try.call5 _) (fun w h => law01_InputNames_w F0 m    r hm w h)

def law01_InputOnce (m : Nat) (s : Str) : Option (Bool) :=
  cond (decide (500 < (ln s))) (
  Option.bind (law01_alive m) fun y5 =>
  some y5) (
  lt (cleanF s) fun y8 =>
  lt (cleanF y8.1) fun y11 =>
  Option.bind (input_Check s) fun y14 =>
  Option.bind (cond (cond (y8.2 == 0) (y11.2 == 0) false) (input_Check y8.1) (some default)) fun y17 =>
  lt (cond (cond (y8.2 == 0) (y11.2 == 0) false) (y17 == 0) false) fun x18 =>
  lt (cond (cond x18 (y8.1 == y11.1) false) ((y8.1 == s) == (y14 == 0)) false) fun x19 =>
  Option.bind (cond x19 (law01_alive m) (some default)) fun y20 =>
  some (cond x19 y20 false))
theorem law01_InputOnce_w  (M : Av) (m : Nat) (s : Str) (r : Bool) (hm : law01_InputOnce m s = some r) (w : World) (hS : S0 M [] w) : Calls Try.prog 6 ⟨[.string ⟨⟨s⟩⟩]⟩ w (fun e w' => ∃ v, e = .returned v ∧ v = .bool r ∧ SH M (fpl []) w [] w') := by
 rw [law01_InputOnce] at hm
 have hS0 : SH M (fpl []) w [] w := hS
 generalize hX : fpl [] = X at hS0 ⊢
 clear hS hX
 have hS := hS0
 clear hS0
 refine calls_entryP Try.func6 rfl Try.ntmps6 rfl fun _ H => ?_
 refine s_reg [] [0] [(0, [], .string ⟨⟨s⟩⟩)] [] H (by kernel_rfl) trivial fun _ wd1 H2 hb => ?_
 clear H
 replace hS := hS.below hb
 clear hb
 refine w_seq ?_
 refine s_reg [] [0, 10] [(0, [], .string ⟨⟨s⟩⟩), (10, [], .bool (decide (500 < (ln s))))] [] H2 (by kernel_rfl) trivial fun _ wd3 H4 hb => ?_
 clear H2
 replace hS := hS.below hb
 clear hb
 refine w_if H4 rfl (fun hc => ?c23) (fun hc => ?_)
 case c23 =>
  replace hm := bT hc hm
  obtain ⟨y5, hy5, hm⟩ := bindE hm
  refine s_reg [(.bool y5)] [2] [(2, [], .bool y5)] [fun wz => RetB Try.prog 24 ⟨[]⟩ (.bool y5) wz] H4 (by kernel_rfl) ⟨((law01_alive_ok m _ hy5).b), trivial⟩ fun _ wd6 H7 hb => ?_
  clear H4
  replace hS := hS.below hb
  clear hb
  refine w_ret ?_
  obtain rfl := someE hm
  exact retR1 H7 rfl rfl ⟨_, rfl, rfl, (hS.sel [] rfl)⟩
 replace hm := bF hc hm
 refine w_skip ?_
 obtain ⟨y8, hy8, hm⟩ := letE hm
 refine s_reg [(.tuple ⟨[.string ⟨⟨y8.1⟩⟩, .int .i64 y8.2]⟩)] [0, 3, 4] [(0, [], .string ⟨⟨s⟩⟩), (3, [], .string ⟨⟨y8.1⟩⟩), (4, [], .int .i64 y8.2)] [fun wz => RetB Try.prog 16 ⟨[.string ⟨⟨s⟩⟩]⟩ (.tuple ⟨[.string ⟨⟨y8.1⟩⟩, .int .i64 y8.2]⟩) wz] H4 (by subst hy8; kernel_rfl) ⟨((by rw [hy8]; exact (cleanF_ok _).b)), trivial⟩ fun _ wd9 H10 hb => ?_
 clear H4
 replace hS := hS.below hb
 clear hb
 obtain ⟨y11, hy11, hm⟩ := letE hm
 refine s_reg [(.tuple ⟨[.string ⟨⟨y11.1⟩⟩, .int .i64 y11.2]⟩)] [0, 3, 4, 5, 6] [(0, [], .string ⟨⟨s⟩⟩), (3, [], .string ⟨⟨y8.1⟩⟩), (4, [], .int .i64 y8.2), (5, [], .string ⟨⟨y11.1⟩⟩), (6, [], .int .i64 y11.2)] [fun wz => RetB Try.prog 16 ⟨[.string ⟨⟨y8.1⟩⟩]⟩ (.tuple ⟨[.string ⟨⟨y11.1⟩⟩, .int .i64 y11.2]⟩) wz] H10 (by subst hy11; kernel_rfl) ⟨((by rw [hy11]; exact (cleanF_ok _).b)), trivial⟩ fun _ wd12 H13 hb => ?_
 clear H10
 replace hS := hS.below hb
 clear hb
 obtain ⟨y14, hy14, hm⟩ := bindE hm
 refine s_reg [(.int .i64 y14)] [0, 3, 4, 5, 6, 7] [(0, [], .string ⟨⟨s⟩⟩), (3, [], .string ⟨⟨y8.1⟩⟩), (4, [], .int .i64 y8.2), (5, [], .string ⟨⟨y11.1⟩⟩), (6, [], .int .i64 y11.2), (7, [], .bool (y14 == 0))] [fun wz => RetB Try.prog 22 ⟨[.string ⟨⟨s⟩⟩]⟩ (.int .i64 y14) wz] H13 (by kernel_rfl) ⟨((input_Check_ok _ _ hy14).b), trivial⟩ fun _ wd15 H16 hb => ?_
 clear H13
 replace hS := hS.below hb
 clear hb
 obtain ⟨y17, hy17, hm⟩ := bindE hm
 obtain ⟨x18, hx18, hm⟩ := letE hm
 obtain ⟨x19, hx19, hm⟩ := letE hm
 obtain ⟨y20, hy20, hm⟩ := bindE hm
 refine s_reg [(.int .i64 y17), (.bool y20)] [2] [(2, [], .bool (cond x19 y20 false))] [fun wz => ((cond (y8.2 == 0) (y11.2 == 0) false) = true ∧ True → RetB Try.prog 22 ⟨[.string ⟨⟨y8.1⟩⟩]⟩ (.int .i64 y17) wz), fun wz => (x19 = true ∧ True → RetB Try.prog 24 ⟨[]⟩ (.bool y20) wz)] H16 (by subst hx18 hx19; kernel_rfl) ⟨fun hg => (input_Check_ok _ _ (bT (hg.1) hy17)).b, fun hg => (law01_alive_ok m _ (bT (hg.1) hy20)).b, trivial⟩ fun _ wd21 H22 hb => ?_
 clear H16
 replace hS := hS.below hb
 clear hb
 refine w_ret ?_
 obtain rfl := someE hm
 exact retR1 H22 rfl rfl ⟨_, rfl, rfl, (hS.sel [] rfl)⟩
theorem law01_InputOnce_ok  (m : Nat) (s : Str) (r : Bool) (hm : law01_InputOnce m s = some r) : Ret Try.prog 6 ⟨[.string ⟨⟨s⟩⟩]⟩ (.bool r) := retP_of (Try.call6 _) (fun w h => law01_InputOnce_w F0 m   s r hm w h)

def law01_InputParts (m : Nat) (s : Str) (t_ : Str) : Option (Bool) :=
  lt (cond (decide (500 < (ln s))) true (decide (500 < (ln t_)))) fun x3 =>
  cond x3 (
  Option.bind (law01_alive m) fun y6 =>
  some y6) (
  lt (cleanF s) fun y9 =>
  lt (cleanF t_) fun y12 =>
  chk (ln s + ln t_ ≤ 9223372036854775807) <|
  lt (cleanF (s ++ t_)) fun y16 =>
  lt (cond (cond (y9.2 != 0) true (y12.2 != 0)) true (y16.2 != 0)) fun x19 =>
  cond x19 (
  some false) (
  lt (cond (decide (0 < (ln s))) (decide (0 < (ln t_))) false) fun x24 =>
  chk (x24 = true → 0 ≤ (w64 ((ln s) - 1)) ∧ (w64 ((ln s) - 1)) < ln s) <|
  lt (cond x24 ((bat s (w64 ((ln s) - 1))) == 13) false) fun x26 =>
  chk (x26 = true → 0 ≤ (0 : Int) ∧ (0 : Int) < ln t_) <|
  cond (cond x26 ((bat t_ 0) == 10) false) (
  chk (0 ≤ (if ln y12.1 < 1 then ln y12.1 else 1) ∧ (if ln y12.1 < 1 then ln y12.1 else 1) ≤ ln y12.1) <|
  lt (sub y12.1 (if ln y12.1 < 1 then ln y12.1 else 1) (ln y12.1)) fun x31 =>
  chk (ln y9.1 + ln x31 ≤ 9223372036854775807) <|
  Option.bind (cond (y16.1 == (y9.1 ++ x31)) (law01_alive m) (some default)) fun y33 =>
  some (cond (y16.1 == (y9.1 ++ x31)) y33 false)) (
  chk (ln y9.1 + ln y12.1 ≤ 9223372036854775807) <|
  Option.bind (cond (y16.1 == (y9.1 ++ y12.1)) (law01_alive m) (some default)) fun y37 =>
  lt (cond (y16.1 == (y9.1 ++ y12.1)) y37 false) fun x38 =>
  some x38)))
theorem law01_InputParts_w  (M : Av) (m : Nat) (s : Str) (t_ : Str) (r : Bool) (hm : law01_InputParts m s t_ = some r) (w : World) (hS : S0 M [] w) : Calls Try.prog 7 ⟨[.string ⟨⟨s⟩⟩, .string ⟨⟨t_⟩⟩]⟩ w (fun e w' => ∃ v, e = .returned v ∧ v = .bool r ∧ SH M (fpl []) w [] w') := by
 rw [law01_InputParts] at hm
 have hS0 : SH M (fpl []) w [] w := hS
 generalize hX : fpl [] = X at hS0 ⊢
 clear hS hX
 have hS := hS0
 clear hS0
 refine calls_entryP Try.func7 rfl Try.ntmps7 rfl fun _ H => ?_
 refine s_reg [] [0, 1] [(0, [], .string ⟨⟨s⟩⟩), (1, [], .string ⟨⟨t_⟩⟩)] [] H (by kernel_rfl) trivial fun _ wd1 H2 hb => ?_
 clear H
 replace hS := hS.below hb
 clear hb
 refine w_seq ?_
 obtain ⟨x3, hx3, hm⟩ := letE hm
 refine s_reg [] [0, 1, 18] [(0, [], .string ⟨⟨s⟩⟩), (1, [], .string ⟨⟨t_⟩⟩), (18, [], .bool x3)] [] H2 (by subst hx3; kernel_rfl) trivial fun _ wd4 H5 hb => ?_
 clear H2
 replace hS := hS.below hb
 clear hb
 refine w_if H5 rfl (fun hc => ?c43) (fun hc => ?_)
 case c43 =>
  replace hm := bT hc hm
  obtain ⟨y6, hy6, hm⟩ := bindE hm
  refine s_reg [(.bool y6)] [4] [(4, [], .bool y6)] [fun wz => RetB Try.prog 24 ⟨[]⟩ (.bool y6) wz] H5 (by kernel_rfl) ⟨((law01_alive_ok m _ hy6).b), trivial⟩ fun _ wd7 H8 hb => ?_
  clear H5
  replace hS := hS.below hb
  clear hb
  refine w_ret ?_
  obtain rfl := someE hm
  exact retR1 H8 rfl rfl ⟨_, rfl, rfl, (hS.sel [] rfl)⟩
 replace hm := bF hc hm
 refine w_skip ?_
 obtain ⟨y9, hy9, hm⟩ := letE hm
 refine s_reg [(.tuple ⟨[.string ⟨⟨y9.1⟩⟩, .int .i64 y9.2]⟩)] [0, 1, 5, 6] [(0, [], .string ⟨⟨s⟩⟩), (1, [], .string ⟨⟨t_⟩⟩), (5, [], .string ⟨⟨y9.1⟩⟩), (6, [], .int .i64 y9.2)] [fun wz => RetB Try.prog 16 ⟨[.string ⟨⟨s⟩⟩]⟩ (.tuple ⟨[.string ⟨⟨y9.1⟩⟩, .int .i64 y9.2]⟩) wz] H5 (by subst hy9; kernel_rfl) ⟨((by rw [hy9]; exact (cleanF_ok _).b)), trivial⟩ fun _ wd10 H11 hb => ?_
 clear H5
 replace hS := hS.below hb
 clear hb
 obtain ⟨y12, hy12, hm⟩ := letE hm
 refine s_reg [(.tuple ⟨[.string ⟨⟨y12.1⟩⟩, .int .i64 y12.2]⟩)] [0, 1, 5, 6, 7, 8] [(0, [], .string ⟨⟨s⟩⟩), (1, [], .string ⟨⟨t_⟩⟩), (5, [], .string ⟨⟨y9.1⟩⟩), (6, [], .int .i64 y9.2), (7, [], .string ⟨⟨y12.1⟩⟩), (8, [], .int .i64 y12.2)] [fun wz => RetB Try.prog 16 ⟨[.string ⟨⟨t_⟩⟩]⟩ (.tuple ⟨[.string ⟨⟨y12.1⟩⟩, .int .i64 y12.2]⟩) wz] H11 (by subst hy12; kernel_rfl) ⟨((by rw [hy12]; exact (cleanF_ok _).b)), trivial⟩ fun _ wd13 H14 hb => ?_
 clear H11
 replace hS := hS.below hb
 clear hb
 obtain ⟨ho15, hm⟩ := chkE hm
 obtain ⟨y16, hy16, hm⟩ := letE hm
 refine s_reg [(.tuple ⟨[.string ⟨⟨y16.1⟩⟩, .int .i64 y16.2]⟩)] [0, 1, 5, 6, 7, 8, 9, 10] [(0, [], .string ⟨⟨s⟩⟩), (1, [], .string ⟨⟨t_⟩⟩), (5, [], .string ⟨⟨y9.1⟩⟩), (6, [], .int .i64 y9.2), (7, [], .string ⟨⟨y12.1⟩⟩), (8, [], .int .i64 y12.2), (9, [], .string ⟨⟨y16.1⟩⟩), (10, [], .int .i64 y16.2)] [fun _ => ln s + ln t_ ≤ 9223372036854775807, fun wz => RetB Try.prog 16 ⟨[.string ⟨⟨s ++ t_⟩⟩]⟩ (.tuple ⟨[.string ⟨⟨y16.1⟩⟩, .int .i64 y16.2]⟩) wz] H14 (by subst hy16; kernel_rfl) ⟨ho15, ((by rw [hy16]; exact (cleanF_ok _).b)), trivial⟩ fun _ wd17 H18 hb => ?_
 clear H14
 replace hS := hS.below hb
 clear hb
 refine w_seq ?_
 obtain ⟨x19, hx19, hm⟩ := letE hm
 refine s_reg [] [0, 1, 5, 7, 9, 46] [(0, [], .string ⟨⟨s⟩⟩), (1, [], .string ⟨⟨t_⟩⟩), (5, [], .string ⟨⟨y9.1⟩⟩), (7, [], .string ⟨⟨y12.1⟩⟩), (9, [], .string ⟨⟨y16.1⟩⟩), (46, [], .bool x19)] [] H18 (by subst hx19; kernel_rfl) trivial fun _ wd20 H21 hb => ?_
 clear H18
 replace hS := hS.below hb
 clear hb
 refine w_if H21 rfl (fun hc => ?c42) (fun hc => ?_)
 case c42 =>
  replace hm := bT hc hm
  refine s_reg [] [4] [(4, [], .bool false)] [] H21 (by kernel_rfl) trivial fun _ wd22 H23 hb => ?_
  clear H21
  replace hS := hS.below hb
  clear hb
  refine w_ret ?_
  obtain rfl := someE hm
  exact retR1 H23 rfl rfl ⟨_, rfl, rfl, (hS.sel [] rfl)⟩
 replace hm := bF hc hm
 refine w_skip ?_
 refine w_seq ?_
 obtain ⟨x24, hx24, hm⟩ := letE hm
 obtain ⟨ho25, hm⟩ := chkE hm
 obtain ⟨x26, hx26, hm⟩ := letE hm
 obtain ⟨ho27, hm⟩ := chkE hm
 refine s_reg [] [5, 7, 9, 67] [(5, [], .string ⟨⟨y9.1⟩⟩), (7, [], .string ⟨⟨y12.1⟩⟩), (9, [], .string ⟨⟨y16.1⟩⟩), (67, [], .bool (cond x26 ((bat t_ 0) == 10) false))] [fun _ => (x24 = true ∧ True → 0 ≤ (w64 ((ln s) - 1)) ∧ (w64 ((ln s) - 1)) < ln s), fun _ => (x26 = true ∧ True → 0 ≤ (0 : Int) ∧ (0 : Int) < ln t_)] H21 (by subst hx24 hx26; kernel_rfl) ⟨fun hg => (ho25 hg.1), fun hg => (ho27 hg.1), trivial⟩ fun _ wd28 H29 hb => ?_
 clear H21
 replace hS := hS.below hb
 clear hb
 refine w_if H29 rfl (fun hc => ?_) (fun hc => ?c41)
 case c41 =>
  replace hm := bF hc hm
  refine w_skip ?_
  obtain ⟨ho36, hm⟩ := chkE hm
  obtain ⟨y37, hy37, hm⟩ := bindE hm
  obtain ⟨x38, hx38, hm⟩ := letE hm
  refine s_reg [(.bool y37)] [4] [(4, [], .bool x38)] [fun _ => ln y9.1 + ln y12.1 ≤ 9223372036854775807, fun wz => ((y16.1 == (y9.1 ++ y12.1)) = true ∧ True → RetB Try.prog 24 ⟨[]⟩ (.bool y37) wz)] H29 (by subst hx38; kernel_rfl) ⟨ho36, fun hg => (law01_alive_ok m _ (bT (hg.1) hy37)).b, trivial⟩ fun _ wd39 H40 hb => ?_
  clear H29
  replace hS := hS.below hb
  clear hb
  refine w_ret ?_
  obtain rfl := someE hm
  exact retR1 H40 rfl rfl ⟨_, rfl, rfl, (hS.sel [] rfl)⟩
 replace hm := bT hc hm
 obtain ⟨ho30, hm⟩ := chkE hm
 obtain ⟨x31, hx31, hm⟩ := letE hm
 obtain ⟨ho32, hm⟩ := chkE hm
 obtain ⟨y33, hy33, hm⟩ := bindE hm
 refine s_reg [(.bool y33)] [4] [(4, [], .bool (cond (y16.1 == (y9.1 ++ x31)) y33 false))] [fun _ => 0 ≤ (if ln y12.1 < 1 then ln y12.1 else 1) ∧ (if ln y12.1 < 1 then ln y12.1 else 1) ≤ ln y12.1, fun _ => ln y9.1 + ln x31 ≤ 9223372036854775807, fun wz => ((y16.1 == (y9.1 ++ x31)) = true ∧ True → RetB Try.prog 24 ⟨[]⟩ (.bool y33) wz)] H29 (by subst hx31; kernel_rfl) ⟨ho30, ho32, fun hg => (law01_alive_ok m _ (bT (hg.1) hy33)).b, trivial⟩ fun _ wd34 H35 hb => ?_
 clear H29
 replace hS := hS.below hb
 clear hb
 refine w_ret ?_
 obtain rfl := someE hm
 exact retR1 H35 rfl rfl ⟨_, rfl, rfl, (hS.sel [] rfl)⟩
theorem law01_InputParts_ok  (m : Nat) (s : Str) (t_ : Str) (r : Bool) (hm : law01_InputParts m s t_ = some r) : Ret Try.prog 7 ⟨[.string ⟨⟨s⟩⟩, .string ⟨⟨t_⟩⟩]⟩ (.bool r) := retP_of (Try.call7 _) (fun w h => law01_InputParts_w F0 m   s t_ r hm w h)

def law01_InputBytes_L1 (m : Nat) (s : Str) : Nat → Int → Int → Int → Option (Int × Int)
  | 0, _, _, _ => none
  | kk + 1, v13, v14, v15 =>
    cond (decide (v15 < (ln s))) (
    Option.bind (
    chk (0 ≤ v15 ∧ v15 < ln s) <|
    lt (cond ((bat s v15) == 10) (decide (0 < v15)) false) fun x20 =>
    chk (x20 = true → 0 ≤ (w64 (v15 - 1)) ∧ (w64 (v15 - 1)) < ln s) <|
    lt (cond x20 ((bat s (w64 (v15 - 1))) == 13) false) fun x22 =>
    cond x22 (
    some (v13, v14)) (
    Option.bind (
    cond ((bat s v15) == 0) (
    some (w64 ((w64 (v13 + 1)) + 2))) (
    some (w64 (v13 + 1)))) fun (z27 : Int) =>
    lt (cond ((bat s v15) == 10) true ((bat s v15) == 13)) fun x33 =>
    cond (cond x33 true ((bat s v15) == 12)) (
    some (z27, w64 (v14 + 1))) (
    some (z27, v14)))) fun (z18 : Int × Int) =>
    law01_InputBytes_L1 m s kk z18.1 z18.2 (w64 (v15 + 1))) (
    some (v13, v14))
def law01_InputBytes (m : Nat) (s : Str) : Option (Bool) :=
  cond (decide (500 < (ln s))) (
  Option.bind (law01_alive m) fun y5 =>
  some y5) (
  Option.bind (
  law01_InputBytes_L1 m s m 0 1 0) fun (z10 : Int × Int) =>
  lt (cleanF s) fun y46 =>
  Option.bind (input_Lines m y46.1) fun y49 =>
  lt (cond (cond (y46.2 == 0) (y49.2 == 0) false) ((ln y46.1) == z10.1) false) fun x52 =>
  Option.bind (cond (cond x52 (y49.1 == z10.2) false) (law01_alive m) (some default)) fun y53 =>
  lt (cond (cond x52 (y49.1 == z10.2) false) y53 false) fun x54 =>
  some x54)
theorem law01_InputBytes_w  (M : Av) (m : Nat) (s : Str) (r : Bool) (hm : law01_InputBytes m s = some r) (w : World) (hS : S0 M [] w) : Calls Try.prog 8 ⟨[.string ⟨⟨s⟩⟩]⟩ w (fun e w' => ∃ v, e = .returned v ∧ v = .bool r ∧ SH M (fpl []) w [] w') := by
 rw [law01_InputBytes] at hm
 have hS0 : SH M (fpl []) w [] w := hS
 generalize hX : fpl [] = X at hS0 ⊢
 clear hS hX
 have hS := hS0
 clear hS0
 refine calls_entryP Try.func8 rfl Try.ntmps8 rfl fun _ H => ?_
 refine s_reg [] [0] [(0, [], .string ⟨⟨s⟩⟩)] [] H (by kernel_rfl) trivial fun _ wd1 H2 hb => ?_
 clear H
 replace hS := hS.below hb
 clear hb
 refine w_seq ?_
 refine s_reg [] [0, 12] [(0, [], .string ⟨⟨s⟩⟩), (12, [], .bool (decide (500 < (ln s))))] [] H2 (by kernel_rfl) trivial fun _ wd3 H4 hb => ?_
 clear H2
 replace hS := hS.below hb
 clear hb
 refine w_if H4 rfl (fun hc => ?c58) (fun hc => ?_)
 case c58 =>
  replace hm := bT hc hm
  obtain ⟨y5, hy5, hm⟩ := bindE hm
  refine s_reg [(.bool y5)] [2] [(2, [], .bool y5)] [fun wz => RetB Try.prog 24 ⟨[]⟩ (.bool y5) wz] H4 (by kernel_rfl) ⟨((law01_alive_ok m _ hy5).b), trivial⟩ fun _ wd6 H7 hb => ?_
  clear H4
  replace hS := hS.below hb
  clear hb
  refine w_ret ?_
  obtain rfl := someE hm
  exact retR1 H7 rfl rfl ⟨_, rfl, rfl, (hS.sel [] rfl)⟩
 replace hm := bF hc hm
 refine w_skip ?_
 refine s_reg [] [0, 3, 4] [(0, [], .string ⟨⟨s⟩⟩), (3, [], .int .i64 0), (4, [], .int .i64 1)] [] H4 (by kernel_rfl) trivial fun _ wd8 H9 hb => ?_
 clear H4
 replace hS := hS.below hb
 clear hb
 obtain ⟨z10, hz, hm⟩ := bindE hm
 refine w_cut (fun a' w' => Fr 91 [(0, [], .string ⟨⟨s⟩⟩), (3, [], .int .i64 z10.1), (4, [], .int .i64 z10.2)] a' ∧ SH M X w [] w') ?_ ?_
 ·replace hm := hz
  refine s_reg [] [0, 3, 4, 5] [(0, [], .string ⟨⟨s⟩⟩), (3, [], .int .i64 0), (4, [], .int .i64 1), (5, [], .int .i64 0)] [] H9 (by kernel_rfl) trivial fun _ wd11 H12 hb => ?_
  clear H9
  replace hS := hS.below hb
  clear hb
  refine w_block ?_
  refine w_loop (fun kk a' w' => ∃ (v13 : Int) (v14 : Int) (v15 : Int), law01_InputBytes_L1 m s kk v13 v14 v15 = some _ ∧ Fr 91 [(0, [], .string ⟨⟨s⟩⟩), (3, [], .int .i64 v13), (4, [], .int .i64 v14), (5, [], .int .i64 v15)] a' ∧ SH M X w [] w') ⟨_, 0, 1, 0, hm, FrG.keep (ks := [0, 3, 4, 5]) H12 (by kernel_rfl), hS⟩ ?_
  clear hm H12 hS
  rintro kk _ wd45 ⟨v13, v14, v15, hm, H, hS⟩
  cases kk with
  | zero => exact noneE hm
  | succ kk =>
   rw [law01_InputBytes_L1] at hm
   refine w_seq ?_
   refine s_reg [] [0, 3, 4, 5, 17] [(0, [], .string ⟨⟨s⟩⟩), (3, [], .int .i64 v13), (4, [], .int .i64 v14), (5, [], .int .i64 v15), (17, [], .bool (decide (v15 < (ln s))))] [] H (by kernel_rfl) trivial fun _ wd16 H17 hb => ?_
   clear H
   replace hS := hS.below hb
   clear hb
   refine w_if H17 rfl (fun hc => ?_) (fun hc => ?c44)
   case c44 =>
    replace hm := bF hc hm
    refine w_exit rfl ?_
    obtain rfl := someE hm
    exact ⟨FrG.keep (ks := [0, 3, 4]) H17 (by kernel_rfl), hS⟩
   replace hm := bT hc hm
   refine w_skip ?_
   obtain ⟨z18, hz, hm⟩ := bindE hm
   refine w_cut (fun a' w' => Fr 91 [(0, [], .string ⟨⟨s⟩⟩), (5, [], .int .i64 v15), (3, [], .int .i64 z18.1), (4, [], .int .i64 z18.2)] a' ∧ SH M X w [] w') ?_ ?_
   ·replace hm := hz
    refine w_block ?_
    refine w_seq ?_
    obtain ⟨ho19, hm⟩ := chkE hm
    obtain ⟨x20, hx20, hm⟩ := letE hm
    obtain ⟨ho21, hm⟩ := chkE hm
    obtain ⟨x22, hx22, hm⟩ := letE hm
    refine s_reg [] [0, 3, 4, 5, 34] [(0, [], .string ⟨⟨s⟩⟩), (3, [], .int .i64 v13), (4, [], .int .i64 v14), (5, [], .int .i64 v15), (34, [], .bool x22)] [fun _ => 0 ≤ v15 ∧ v15 < ln s, fun _ => (x20 = true ∧ True → 0 ≤ (w64 (v15 - 1)) ∧ (w64 (v15 - 1)) < ln s)] H17 (by subst hx20 hx22; kernel_rfl) ⟨ho19, fun hg => (ho21 hg.1), trivial⟩ fun _ wd23 H24 hb => ?_
    clear H17
    replace hS := hS.below hb
    clear hb
    refine w_if H24 rfl (fun hc => ?c40) (fun hc => ?_)
    case c40 =>
     replace hm := bT hc hm
     refine w_exit rfl ?_
     obtain rfl := someE hm
     exact ⟨FrG.keep (ks := [0, 5, 3, 4]) H24 (by kernel_rfl), hS⟩
    replace hm := bF hc hm
    refine w_skip ?_
    refine s_reg [] [0, 3, 4, 5] [(0, [], .string ⟨⟨s⟩⟩), (3, [], .int .i64 (w64 (v13 + 1))), (4, [], .int .i64 v14), (5, [], .int .i64 v15)] [] H24 (by kernel_rfl) trivial fun _ wd25 H26 hb => ?_
    clear H24
    replace hS := hS.below hb
    clear hb
    obtain ⟨z27, hz, hm⟩ := bindE hm
    refine w_cut (fun a' w' => Fr 91 [(0, [], .string ⟨⟨s⟩⟩), (4, [], .int .i64 v14), (5, [], .int .i64 v15), (3, [], .int .i64 z27)] a' ∧ SH M X w [] w') ?_ ?_
    ·replace hm := hz
     refine s_reg [] [0, 3, 4, 5, 40] [(0, [], .string ⟨⟨s⟩⟩), (3, [], .int .i64 (w64 (v13 + 1))), (4, [], .int .i64 v14), (5, [], .int .i64 v15), (40, [], .bool ((bat s v15) == 0))] [fun _ => 0 ≤ v15 ∧ v15 < ln s] H26 (by kernel_rfl) ⟨ho19, trivial⟩ fun _ wd28 H29 hb => ?_
     clear H26
     replace hS := hS.below hb
     clear hb
     refine w_if H29 rfl (fun hc => ?_) (fun hc => ?c32)
     case c32 =>
      replace hm := bF hc hm
      refine w_skip ?_
      obtain rfl := someE hm
      exact ⟨FrG.keep (ks := [0, 4, 5, 3]) H29 (by kernel_rfl), hS⟩
     replace hm := bT hc hm
     refine w_reg [] [0, 3, 4, 5] [(0, [], .string ⟨⟨s⟩⟩), (3, [], .int .i64 (w64 ((w64 (v13 + 1)) + 2))), (4, [], .int .i64 v14), (5, [], .int .i64 v15)] [] H29 (by kernel_rfl) trivial fun _ wd30 H31 hb => ?_
     clear H29
     replace hS := hS.below hb
     clear hb
     obtain rfl := someE hm
     exact ⟨FrG.keep (ks := [0, 4, 5, 3]) H31 (by kernel_rfl), hS⟩
    ·rintro _ wd39 ⟨H, hS⟩
     obtain ⟨x33, hx33, hm⟩ := letE hm
     refine s_reg [] [0, 3, 4, 5, 58] [(0, [], .string ⟨⟨s⟩⟩), (3, [], .int .i64 z27), (4, [], .int .i64 v14), (5, [], .int .i64 v15), (58, [], .bool (cond x33 true ((bat s v15) == 12)))] [fun _ => 0 ≤ v15 ∧ v15 < ln s, fun _ => (((bat s v15) == 10) = false ∧ True → 0 ≤ v15 ∧ v15 < ln s), fun _ => (x33 = false ∧ True → 0 ≤ v15 ∧ v15 < ln s)] H (by subst hx33; kernel_rfl) ⟨ho19, fun hg => ho19, fun hg => ho19, trivial⟩ fun _ wd34 H35 hb => ?_
     clear H
     replace hS := hS.below hb
     clear hb
     refine w_if H35 rfl (fun hc => ?_) (fun hc => ?c38)
     case c38 =>
      replace hm := bF hc hm
      refine w_skip ?_
      obtain rfl := someE hm
      exact ⟨FrG.keep (ks := [0, 5, 3, 4]) H35 (by kernel_rfl), hS⟩
     replace hm := bT hc hm
     refine w_reg [] [0, 3, 4, 5] [(0, [], .string ⟨⟨s⟩⟩), (3, [], .int .i64 z27), (4, [], .int .i64 (w64 (v14 + 1))), (5, [], .int .i64 v15)] [] H35 (by kernel_rfl) trivial fun _ wd36 H37 hb => ?_
     clear H35
     replace hS := hS.below hb
     clear hb
     obtain rfl := someE hm
     exact ⟨FrG.keep (ks := [0, 5, 3, 4]) H37 (by kernel_rfl), hS⟩
   ·rintro _ wd43 ⟨H, hS⟩
    refine w_reg [] [0, 3, 4, 5] [(0, [], .string ⟨⟨s⟩⟩), (3, [], .int .i64 z18.1), (4, [], .int .i64 z18.2), (5, [], .int .i64 (w64 (v15 + 1)))] [] H (by kernel_rfl) trivial fun _ wd41 H42 hb => ?_
    clear H
    replace hS := hS.below hb
    clear hb
    exact ⟨_, Nat.lt_succ_self _, z18.1, z18.2, w64 (v15 + 1), hm, FrG.keep (ks := [0, 3, 4, 5]) H42 (by kernel_rfl), hS⟩
 ·rintro _ wd57 ⟨H, hS⟩
  obtain ⟨y46, hy46, hm⟩ := letE hm
  refine s_reg [(.tuple ⟨[.string ⟨⟨y46.1⟩⟩, .int .i64 y46.2]⟩)] [3, 4, 6, 7] [(3, [], .int .i64 z10.1), (4, [], .int .i64 z10.2), (6, [], .string ⟨⟨y46.1⟩⟩), (7, [], .int .i64 y46.2)] [fun wz => RetB Try.prog 16 ⟨[.string ⟨⟨s⟩⟩]⟩ (.tuple ⟨[.string ⟨⟨y46.1⟩⟩, .int .i64 y46.2]⟩) wz] H (by subst hy46; kernel_rfl) ⟨((by rw [hy46]; exact (cleanF_ok _).b)), trivial⟩ fun _ wd47 H48 hb => ?_
  clear H
  replace hS := hS.below hb
  clear hb
  obtain ⟨y49, hy49, hm⟩ := bindE hm
  refine s_reg [(.tuple ⟨[.int .i64 y49.1, .int .i64 y49.2]⟩)] [3, 4, 6, 7, 8, 9] [(3, [], .int .i64 z10.1), (4, [], .int .i64 z10.2), (6, [], .string ⟨⟨y46.1⟩⟩), (7, [], .int .i64 y46.2), (8, [], .int .i64 y49.1), (9, [], .int .i64 y49.2)] [fun wz => RetB Try.prog 18 ⟨[.string ⟨⟨y46.1⟩⟩]⟩ (.tuple ⟨[.int .i64 y49.1, .int .i64 y49.2]⟩) wz] H48 (by kernel_rfl) ⟨((input_Lines_ok m _ _ hy49).b), trivial⟩ fun _ wd50 H51 hb => ?_
  clear H48
  replace hS := hS.below hb
  clear hb
  obtain ⟨x52, hx52, hm⟩ := letE hm
  obtain ⟨y53, hy53, hm⟩ := bindE hm
  obtain ⟨x54, hx54, hm⟩ := letE hm
  refine s_reg [(.bool y53)] [2] [(2, [], .bool x54)] [fun wz => ((cond x52 (y49.1 == z10.2) false) = true ∧ True → RetB Try.prog 24 ⟨[]⟩ (.bool y53) wz)] H51 (by subst hx52 hx54; kernel_rfl) ⟨fun hg => (law01_alive_ok m _ (bT (hg.1) hy53)).b, trivial⟩ fun _ wd55 H56 hb => ?_
  clear H51
  replace hS := hS.below hb
  clear hb
  refine w_ret ?_
  obtain rfl := someE hm
  exact retR1 H56 rfl rfl ⟨_, rfl, rfl, (hS.sel [] rfl)⟩
theorem law01_InputBytes_ok  (m : Nat) (s : Str) (r : Bool) (hm : law01_InputBytes m s = some r) : Ret Try.prog 8 ⟨[.string ⟨⟨s⟩⟩]⟩ (.bool r) := retP_of (Try.call8 _) (fun w h => law01_InputBytes_w F0 m   s r hm w h)

def law01_InputPlaces (m : Nat) (s : Str) (at_ : Int) : Option (Bool) :=
  Option.bind (cond (decide (500 < (ln s))) (some default) (r01_Check m s)) fun y3 =>
  lt (cond (decide (500 < (ln s))) true (y3 != 0)) fun x4 =>
  cond x4 (
  Option.bind (law01_alive m) fun y7 =>
  some y7) (
  Option.bind (input_Place m s 0) fun y10 =>
  Option.bind (input_Place m s (ln s)) fun y13 =>
  Option.bind (input_Lines m s) fun y16 =>
  lt (cond (cond (y10.2.2 != 0) true (y13.2.2 != 0)) true (y16.2 != 0)) fun x19 =>
  lt (cond (cond x19 true (y10.1 != 1)) true (y10.2.1 != 1)) fun x20 =>
  cond (cond x20 true (y13.1 != y16.1)) (
  some false) (
  lt (cond (decide (at_ < 0)) true (decide ((ln s) ≤ at_))) fun x25 =>
  cond x25 (
  Option.bind (law01_alive m) fun y28 =>
  some y28) (
  Option.bind (input_Place m s at_) fun y31 =>
  Option.bind (input_Place m s (w64 (at_ + 1))) fun y34 =>
  cond (cond (y31.2.2 != 0) true (y34.2.2 != 0)) (
  some false) (
  chk (0 ≤ at_ ∧ at_ < ln s) <|
  cond ((bat s at_) == 10) (
  lt (cond (y34.1 == (w64 (y31.1 + 1))) (y34.2.1 == 1) false) fun x44 =>
  Option.bind (cond x44 (law01_alive m) (some default)) fun y45 =>
  some (cond x44 y45 false)) (
  lt (cond (y34.1 == y31.1) (y34.2.1 == (w64 (y31.2.1 + 1))) false) fun x48 =>
  Option.bind (cond x48 (law01_alive m) (some default)) fun y49 =>
  some (cond x48 y49 false))))))
theorem law01_InputPlaces_w  (M : Av) (m : Nat) (s : Str) (at_ : Int) (r : Bool) (hm : law01_InputPlaces m s at_ = some r) (w : World) (hS : S0 M [] w) : Calls Try.prog 9 ⟨[.string ⟨⟨s⟩⟩, .int .i64 at_]⟩ w (fun e w' => ∃ v, e = .returned v ∧ v = .bool r ∧ SH M (fpl []) w [] w') := by
 rw [law01_InputPlaces] at hm
 have hS0 : SH M (fpl []) w [] w := hS
 generalize hX : fpl [] = X at hS0 ⊢
 clear hS hX
 have hS := hS0
 clear hS0
 refine calls_entryP Try.func9 rfl Try.ntmps9 rfl fun _ H => ?_
 refine s_reg [] [0, 1] [(0, [], .string ⟨⟨s⟩⟩), (1, [], .int .i64 at_)] [] H (by kernel_rfl) trivial fun _ wd1 H2 hb => ?_
 clear H
 replace hS := hS.below hb
 clear hb
 refine w_seq ?_
 obtain ⟨y3, hy3, hm⟩ := bindE hm
 obtain ⟨x4, hx4, hm⟩ := letE hm
 refine s_reg [(.int .i64 y3)] [0, 1, 26] [(0, [], .string ⟨⟨s⟩⟩), (1, [], .int .i64 at_), (26, [], .bool x4)] [fun wz => ((decide (500 < (ln s))) = false ∧ True → RetB Try.prog 23 ⟨[.string ⟨⟨s⟩⟩]⟩ (.int .i64 y3) wz)] H2 (by subst hx4; kernel_rfl) ⟨fun hg => (r01_Check_ok m _ _ (bF (hg.1) hy3)).b, trivial⟩ fun _ wd5 H6 hb => ?_
 clear H2
 replace hS := hS.below hb
 clear hb
 refine w_if H6 rfl (fun hc => ?c56) (fun hc => ?_)
 case c56 =>
  replace hm := bT hc hm
  obtain ⟨y7, hy7, hm⟩ := bindE hm
  refine s_reg [(.bool y7)] [4] [(4, [], .bool y7)] [fun wz => RetB Try.prog 24 ⟨[]⟩ (.bool y7) wz] H6 (by kernel_rfl) ⟨((law01_alive_ok m _ hy7).b), trivial⟩ fun _ wd8 H9 hb => ?_
  clear H6
  replace hS := hS.below hb
  clear hb
  refine w_ret ?_
  obtain rfl := someE hm
  exact retR1 H9 rfl rfl ⟨_, rfl, rfl, (hS.sel [] rfl)⟩
 replace hm := bF hc hm
 refine w_skip ?_
 obtain ⟨y10, hy10, hm⟩ := bindE hm
 refine s_reg [(.tuple ⟨[.int .i64 y10.1, .int .i64 y10.2.1, .int .i64 y10.2.2]⟩)] [0, 1, 5, 6, 7] [(0, [], .string ⟨⟨s⟩⟩), (1, [], .int .i64 at_), (5, [], .int .i64 y10.1), (6, [], .int .i64 y10.2.1), (7, [], .int .i64 y10.2.2)] [fun wz => RetB Try.prog 20 ⟨[.string ⟨⟨s⟩⟩, .int .i64 0]⟩ (.tuple ⟨[.int .i64 y10.1, .int .i64 y10.2.1, .int .i64 y10.2.2]⟩) wz] H6 (by kernel_rfl) ⟨((input_Place_ok m _ _ _ hy10).b), trivial⟩ fun _ wd11 H12 hb => ?_
 clear H6
 replace hS := hS.below hb
 clear hb
 obtain ⟨y13, hy13, hm⟩ := bindE hm
 refine s_reg [(.tuple ⟨[.int .i64 y13.1, .int .i64 y13.2.1, .int .i64 y13.2.2]⟩)] [0, 1, 5, 6, 7, 8, 10] [(0, [], .string ⟨⟨s⟩⟩), (1, [], .int .i64 at_), (5, [], .int .i64 y10.1), (6, [], .int .i64 y10.2.1), (7, [], .int .i64 y10.2.2), (8, [], .int .i64 y13.1), (10, [], .int .i64 y13.2.2)] [fun wz => RetB Try.prog 20 ⟨[.string ⟨⟨s⟩⟩, .int .i64 (ln s)]⟩ (.tuple ⟨[.int .i64 y13.1, .int .i64 y13.2.1, .int .i64 y13.2.2]⟩) wz] H12 (by kernel_rfl) ⟨((input_Place_ok m _ _ _ hy13).b), trivial⟩ fun _ wd14 H15 hb => ?_
 clear H12
 replace hS := hS.below hb
 clear hb
 obtain ⟨y16, hy16, hm⟩ := bindE hm
 refine s_reg [(.tuple ⟨[.int .i64 y16.1, .int .i64 y16.2]⟩)] [0, 1, 5, 6, 7, 8, 10, 11, 12] [(0, [], .string ⟨⟨s⟩⟩), (1, [], .int .i64 at_), (5, [], .int .i64 y10.1), (6, [], .int .i64 y10.2.1), (7, [], .int .i64 y10.2.2), (8, [], .int .i64 y13.1), (10, [], .int .i64 y13.2.2), (11, [], .int .i64 y16.1), (12, [], .int .i64 y16.2)] [fun wz => RetB Try.prog 18 ⟨[.string ⟨⟨s⟩⟩]⟩ (.tuple ⟨[.int .i64 y16.1, .int .i64 y16.2]⟩) wz] H15 (by kernel_rfl) ⟨((input_Lines_ok m _ _ hy16).b), trivial⟩ fun _ wd17 H18 hb => ?_
 clear H15
 replace hS := hS.below hb
 clear hb
 refine w_seq ?_
 obtain ⟨x19, hx19, hm⟩ := letE hm
 obtain ⟨x20, hx20, hm⟩ := letE hm
 refine s_reg [] [0, 1, 69] [(0, [], .string ⟨⟨s⟩⟩), (1, [], .int .i64 at_), (69, [], .bool (cond x20 true (y13.1 != y16.1)))] [] H18 (by subst hx19 hx20; kernel_rfl) trivial fun _ wd21 H22 hb => ?_
 clear H18
 replace hS := hS.below hb
 clear hb
 refine w_if H22 rfl (fun hc => ?c55) (fun hc => ?_)
 case c55 =>
  replace hm := bT hc hm
  refine s_reg [] [4] [(4, [], .bool false)] [] H22 (by kernel_rfl) trivial fun _ wd23 H24 hb => ?_
  clear H22
  replace hS := hS.below hb
  clear hb
  refine w_ret ?_
  obtain rfl := someE hm
  exact retR1 H24 rfl rfl ⟨_, rfl, rfl, (hS.sel [] rfl)⟩
 replace hm := bF hc hm
 refine w_skip ?_
 refine w_seq ?_
 obtain ⟨x25, hx25, hm⟩ := letE hm
 refine s_reg [] [0, 1, 77] [(0, [], .string ⟨⟨s⟩⟩), (1, [], .int .i64 at_), (77, [], .bool x25)] [] H22 (by subst hx25; kernel_rfl) trivial fun _ wd26 H27 hb => ?_
 clear H22
 replace hS := hS.below hb
 clear hb
 refine w_if H27 rfl (fun hc => ?c54) (fun hc => ?_)
 case c54 =>
  replace hm := bT hc hm
  obtain ⟨y28, hy28, hm⟩ := bindE hm
  refine s_reg [(.bool y28)] [4] [(4, [], .bool y28)] [fun wz => RetB Try.prog 24 ⟨[]⟩ (.bool y28) wz] H27 (by kernel_rfl) ⟨((law01_alive_ok m _ hy28).b), trivial⟩ fun _ wd29 H30 hb => ?_
  clear H27
  replace hS := hS.below hb
  clear hb
  refine w_ret ?_
  obtain rfl := someE hm
  exact retR1 H30 rfl rfl ⟨_, rfl, rfl, (hS.sel [] rfl)⟩
 replace hm := bF hc hm
 refine w_skip ?_
 obtain ⟨y31, hy31, hm⟩ := bindE hm
 refine s_reg [(.tuple ⟨[.int .i64 y31.1, .int .i64 y31.2.1, .int .i64 y31.2.2]⟩)] [0, 1, 13, 14, 15] [(0, [], .string ⟨⟨s⟩⟩), (1, [], .int .i64 at_), (13, [], .int .i64 y31.1), (14, [], .int .i64 y31.2.1), (15, [], .int .i64 y31.2.2)] [fun wz => RetB Try.prog 20 ⟨[.string ⟨⟨s⟩⟩, .int .i64 at_]⟩ (.tuple ⟨[.int .i64 y31.1, .int .i64 y31.2.1, .int .i64 y31.2.2]⟩) wz] H27 (by kernel_rfl) ⟨((input_Place_ok m _ _ _ hy31).b), trivial⟩ fun _ wd32 H33 hb => ?_
 clear H27
 replace hS := hS.below hb
 clear hb
 obtain ⟨y34, hy34, hm⟩ := bindE hm
 refine s_reg [(.tuple ⟨[.int .i64 y34.1, .int .i64 y34.2.1, .int .i64 y34.2.2]⟩)] [0, 1, 13, 14, 15, 16, 17, 18] [(0, [], .string ⟨⟨s⟩⟩), (1, [], .int .i64 at_), (13, [], .int .i64 y31.1), (14, [], .int .i64 y31.2.1), (15, [], .int .i64 y31.2.2), (16, [], .int .i64 y34.1), (17, [], .int .i64 y34.2.1), (18, [], .int .i64 y34.2.2)] [fun wz => RetB Try.prog 20 ⟨[.string ⟨⟨s⟩⟩, .int .i64 (w64 (at_ + 1))]⟩ (.tuple ⟨[.int .i64 y34.1, .int .i64 y34.2.1, .int .i64 y34.2.2]⟩) wz] H33 (by kernel_rfl) ⟨((input_Place_ok m _ _ _ hy34).b), trivial⟩ fun _ wd35 H36 hb => ?_
 clear H33
 replace hS := hS.below hb
 clear hb
 refine w_seq ?_
 refine s_reg [] [0, 1, 13, 14, 16, 17, 99] [(0, [], .string ⟨⟨s⟩⟩), (1, [], .int .i64 at_), (13, [], .int .i64 y31.1), (14, [], .int .i64 y31.2.1), (16, [], .int .i64 y34.1), (17, [], .int .i64 y34.2.1), (99, [], .bool (cond (y31.2.2 != 0) true (y34.2.2 != 0)))] [] H36 (by kernel_rfl) trivial fun _ wd37 H38 hb => ?_
 clear H36
 replace hS := hS.below hb
 clear hb
 refine w_if H38 rfl (fun hc => ?c53) (fun hc => ?_)
 case c53 =>
  replace hm := bT hc hm
  refine s_reg [] [4] [(4, [], .bool false)] [] H38 (by kernel_rfl) trivial fun _ wd39 H40 hb => ?_
  clear H38
  replace hS := hS.below hb
  clear hb
  refine w_ret ?_
  obtain rfl := someE hm
  exact retR1 H40 rfl rfl ⟨_, rfl, rfl, (hS.sel [] rfl)⟩
 replace hm := bF hc hm
 refine w_skip ?_
 refine w_seq ?_
 obtain ⟨ho41, hm⟩ := chkE hm
 refine s_reg [] [13, 14, 16, 17, 103] [(13, [], .int .i64 y31.1), (14, [], .int .i64 y31.2.1), (16, [], .int .i64 y34.1), (17, [], .int .i64 y34.2.1), (103, [], .bool ((bat s at_) == 10))] [fun _ => 0 ≤ at_ ∧ at_ < ln s] H38 (by kernel_rfl) ⟨ho41, trivial⟩ fun _ wd42 H43 hb => ?_
 clear H38
 replace hS := hS.below hb
 clear hb
 refine w_if H43 rfl (fun hc => ?c52) (fun hc => ?_)
 case c52 =>
  replace hm := bT hc hm
  obtain ⟨x44, hx44, hm⟩ := letE hm
  obtain ⟨y45, hy45, hm⟩ := bindE hm
  refine s_reg [(.bool y45)] [4] [(4, [], .bool (cond x44 y45 false))] [fun wz => (x44 = true ∧ True → RetB Try.prog 24 ⟨[]⟩ (.bool y45) wz)] H43 (by subst hx44; kernel_rfl) ⟨fun hg => (law01_alive_ok m _ (bT (hg.1) hy45)).b, trivial⟩ fun _ wd46 H47 hb => ?_
  clear H43
  replace hS := hS.below hb
  clear hb
  refine w_ret ?_
  obtain rfl := someE hm
  exact retR1 H47 rfl rfl ⟨_, rfl, rfl, (hS.sel [] rfl)⟩
 replace hm := bF hc hm
 refine w_skip ?_
 obtain ⟨x48, hx48, hm⟩ := letE hm
 obtain ⟨y49, hy49, hm⟩ := bindE hm
 refine s_reg [(.bool y49)] [4] [(4, [], .bool (cond x48 y49 false))] [fun wz => (x48 = true ∧ True → RetB Try.prog 24 ⟨[]⟩ (.bool y49) wz)] H43 (by subst hx48; kernel_rfl) ⟨fun hg => (law01_alive_ok m _ (bT (hg.1) hy49)).b, trivial⟩ fun _ wd50 H51 hb => ?_
 clear H43
 replace hS := hS.below hb
 clear hb
 refine w_ret ?_
 obtain rfl := someE hm
 exact retR1 H51 rfl rfl ⟨_, rfl, rfl, (hS.sel [] rfl)⟩
theorem law01_InputPlaces_ok  (m : Nat) (s : Str) (at_ : Int) (r : Bool) (hm : law01_InputPlaces m s at_ = some r) : Ret Try.prog 9 ⟨[.string ⟨⟨s⟩⟩, .int .i64 at_]⟩ (.bool r) := retP_of (Try.call9 _) (fun w h => law01_InputPlaces_w F0 m   s at_ r hm w h)

def law01_InputLetters_L1 (m : Nat) (a_ : Str) (y9 : Str) : Nat → Int → Option (Sum (Bool) (Unit))
  | 0, _ => none
  | kk + 1, v27 =>
    cond (decide (v27 < (ln a_))) (
    chk (0 ≤ v27 ∧ v27 < ln y9) <|
    chk (0 ≤ v27 ∧ v27 < ln a_) <|
    lt (cond ((bat y9 v27) != (bat a_ v27)) (cond (cond (decide ((bat a_ v27) < 65)) true (decide (90 < (bat a_ v27)))) true ((bat y9 v27) != (wu8 ((bat a_ v27) + 32)))) false) fun x32 =>
    lt (cond x32 true (cond (cond (decide (65 ≤ (bat a_ v27))) (decide ((bat a_ v27) ≤ 90)) false) ((bat y9 v27) == (bat a_ v27)) false)) fun x33 =>
    cond x33 (
    some (.inl false)) (
    law01_InputLetters_L1 m a_ y9 kk (w64 (v27 + 1)))) (
    some (.inr ()))
def law01_InputLetters (m : Nat) (a_ : Str) (b_ : Str) (c_ : Str) : Option (Bool) :=
  lt (cond (decide (500 < (ln a_))) true (decide (500 < (ln b_)))) fun x3 =>
  cond (cond x3 true (decide (500 < (ln c_)))) (
  Option.bind (law01_alive m) fun y6 =>
  some y6) (
  Option.bind (input_Lower m a_) fun y9 =>
  Option.bind (input_Lower m y9) fun y12 =>
  lt (cond (!(y12 == y9)) true ((ln y9) != (ln a_))) fun x13 =>
  chk (x13 = false → ln a_ + ln b_ ≤ 9223372036854775807) <|
  Option.bind (cond x13 (some default) (input_Lower m (a_ ++ b_))) fun y15 =>
  Option.bind (cond x13 (some default) (input_Lower m b_)) fun y16 =>
  chk (x13 = false → ln y9 + ln y16 ≤ 9223372036854775807) <|
  Option.bind (cond (cond x13 true (!(y15 == (y9 ++ y16)))) (some default) (input_Alike m a_ y9)) fun y18 =>
  lt (cond (cond x13 true (!(y15 == (y9 ++ y16)))) true (!y18)) fun x19 =>
  cond x19 (
  some false) (
  Option.bind (
  law01_InputLetters_L1 m a_ y9 m 0) fun (z24 : Sum (Bool) (Unit)) => sumK z24 fun s_z24 =>
  Option.bind (input_Alike m a_ b_) fun y43 =>
  Option.bind (input_Alike m b_ c_) fun y44 =>
  Option.bind (input_Alike m a_ c_) fun y45 =>
  Option.bind (input_Alike m b_ a_) fun y48 =>
  Option.bind (cond (y43 == y48) (input_Lower m b_) (some default)) fun y49 =>
  lt (cond (y43 == y48) (y43 == (y9 == y49)) false) fun x50 =>
  lt (cond x50 (cond (!y43) true (y44 == y45)) false) fun x51 =>
  Option.bind (cond x51 (law01_alive m) (some default)) fun y52 =>
  some (cond x51 y52 false)))
theorem law01_InputLetters_w  (M : Av) (m : Nat) (a_ : Str) (b_ : Str) (c_ : Str) (r : Bool) (hm : law01_InputLetters m a_ b_ c_ = some r) (w : World) (hS : S0 M [] w) : Calls Try.prog 10 ⟨[.string ⟨⟨a_⟩⟩, .string ⟨⟨b_⟩⟩, .string ⟨⟨c_⟩⟩]⟩ w (fun e w' => ∃ v, e = .returned v ∧ v = .bool r ∧ SH M (fpl []) w [] w') := by
 rw [law01_InputLetters] at hm
 have hS0 : SH M (fpl []) w [] w := hS
 generalize hX : fpl [] = X at hS0 ⊢
 clear hS hX
 have hS := hS0
 clear hS0
 refine calls_entryP Try.func10 rfl Try.ntmps10 rfl fun _ H => ?_
 refine s_reg [] [0, 1, 2] [(0, [], .string ⟨⟨a_⟩⟩), (1, [], .string ⟨⟨b_⟩⟩), (2, [], .string ⟨⟨c_⟩⟩)] [] H (by kernel_rfl) trivial fun _ wd1 H2 hb => ?_
 clear H
 replace hS := hS.below hb
 clear hb
 refine w_seq ?_
 obtain ⟨x3, hx3, hm⟩ := letE hm
 refine s_reg [] [0, 1, 2, 24] [(0, [], .string ⟨⟨a_⟩⟩), (1, [], .string ⟨⟨b_⟩⟩), (2, [], .string ⟨⟨c_⟩⟩), (24, [], .bool (cond x3 true (decide (500 < (ln c_)))))] [] H2 (by subst hx3; kernel_rfl) trivial fun _ wd4 H5 hb => ?_
 clear H2
 replace hS := hS.below hb
 clear hb
 refine w_if H5 rfl (fun hc => ?c57) (fun hc => ?_)
 case c57 =>
  replace hm := bT hc hm
  obtain ⟨y6, hy6, hm⟩ := bindE hm
  refine s_reg [(.bool y6)] [6] [(6, [], .bool y6)] [fun wz => RetB Try.prog 24 ⟨[]⟩ (.bool y6) wz] H5 (by kernel_rfl) ⟨((law01_alive_ok m _ hy6).b), trivial⟩ fun _ wd7 H8 hb => ?_
  clear H5
  replace hS := hS.below hb
  clear hb
  refine w_ret ?_
  obtain rfl := someE hm
  exact retR1 H8 rfl rfl ⟨_, rfl, rfl, (hS.sel [] rfl)⟩
 replace hm := bF hc hm
 refine w_skip ?_
 obtain ⟨y9, hy9, hm⟩ := bindE hm
 refine s_reg [(.string ⟨⟨y9⟩⟩)] [0, 1, 2, 7] [(0, [], .string ⟨⟨a_⟩⟩), (1, [], .string ⟨⟨b_⟩⟩), (2, [], .string ⟨⟨c_⟩⟩), (7, [], .string ⟨⟨y9⟩⟩)] [fun wz => RetB Try.prog 11 ⟨[.string ⟨⟨a_⟩⟩]⟩ (.string ⟨⟨y9⟩⟩) wz] H5 (by kernel_rfl) ⟨((input_Lower_ok m _ _ hy9).b), trivial⟩ fun _ wd10 H11 hb => ?_
 clear H5
 replace hS := hS.below hb
 clear hb
 refine w_seq ?_
 obtain ⟨y12, hy12, hm⟩ := bindE hm
 obtain ⟨x13, hx13, hm⟩ := letE hm
 obtain ⟨ho14, hm⟩ := chkE hm
 obtain ⟨y15, hy15, hm⟩ := bindE hm
 obtain ⟨y16, hy16, hm⟩ := bindE hm
 obtain ⟨ho17, hm⟩ := chkE hm
 obtain ⟨y18, hy18, hm⟩ := bindE hm
 obtain ⟨x19, hx19, hm⟩ := letE hm
 refine s_reg [(.string ⟨⟨y12⟩⟩), (.string ⟨⟨y15⟩⟩), (.string ⟨⟨y16⟩⟩), (.bool y18)] [0, 1, 2, 7, 55] [(0, [], .string ⟨⟨a_⟩⟩), (1, [], .string ⟨⟨b_⟩⟩), (2, [], .string ⟨⟨c_⟩⟩), (7, [], .string ⟨⟨y9⟩⟩), (55, [], .bool x19)] [fun wz => RetB Try.prog 11 ⟨[.string ⟨⟨y9⟩⟩]⟩ (.string ⟨⟨y12⟩⟩) wz, fun _ => (x13 = false ∧ True → ln a_ + ln b_ ≤ 9223372036854775807), fun wz => (x13 = false ∧ True → RetB Try.prog 11 ⟨[.string ⟨⟨a_ ++ b_⟩⟩]⟩ (.string ⟨⟨y15⟩⟩) wz), fun wz => (x13 = false ∧ True → RetB Try.prog 11 ⟨[.string ⟨⟨b_⟩⟩]⟩ (.string ⟨⟨y16⟩⟩) wz), fun _ => (x13 = false ∧ True → ln y9 + ln y16 ≤ 9223372036854775807), fun wz => ((cond x13 true (!(y15 == (y9 ++ y16)))) = false ∧ True → RetB Try.prog 13 ⟨[.string ⟨⟨a_⟩⟩, .string ⟨⟨y9⟩⟩]⟩ (.bool y18) wz)] H11 (by subst hx13 hx19; kernel_rfl) ⟨((input_Lower_ok m _ _ hy12).b), fun hg => (ho14 hg.1), fun hg => (input_Lower_ok m _ _ (bF (hg.1) hy15)).b, fun hg => (input_Lower_ok m _ _ (bF (hg.1) hy16)).b, fun hg => (ho17 hg.1), fun hg => (input_Alike_ok m _ _ _ (bF (hg.1) hy18)).b, trivial⟩ fun _ wd20 H21 hb => ?_
 clear H11
 replace hS := hS.below hb
 clear hb
 refine w_if H21 rfl (fun hc => ?c56) (fun hc => ?_)
 case c56 =>
  replace hm := bT hc hm
  refine s_reg [] [6] [(6, [], .bool false)] [] H21 (by kernel_rfl) trivial fun _ wd22 H23 hb => ?_
  clear H21
  replace hS := hS.below hb
  clear hb
  refine w_ret ?_
  obtain rfl := someE hm
  exact retR1 H23 rfl rfl ⟨_, rfl, rfl, (hS.sel [] rfl)⟩
 replace hm := bF hc hm
 refine w_skip ?_
 obtain ⟨z24, hz, hm_z24⟩ := bindE hm
 refine w_cut (fun a' w' => ∃ s_z24 : Unit, z24 = Sum.inr s_z24 ∧ Fr 146 [(0, [], .string ⟨⟨a_⟩⟩), (1, [], .string ⟨⟨b_⟩⟩), (2, [], .string ⟨⟨c_⟩⟩), (7, [], .string ⟨⟨y9⟩⟩)] a' ∧ SH M X w [] w') ?_ ?_
 ·replace hm := hz
  refine s_reg [] [0, 1, 2, 7, 8] [(0, [], .string ⟨⟨a_⟩⟩), (1, [], .string ⟨⟨b_⟩⟩), (2, [], .string ⟨⟨c_⟩⟩), (7, [], .string ⟨⟨y9⟩⟩), (8, [], .int .i64 0)] [] H21 (by kernel_rfl) trivial fun _ wd25 H26 hb => ?_
  clear H21
  replace hS := hS.below hb
  clear hb
  refine w_block ?_
  refine w_loop (fun kk a' w' => ∃ (v27 : Int), law01_InputLetters_L1 m a_ y9 kk v27 = some _ ∧ Fr 146 [(0, [], .string ⟨⟨a_⟩⟩), (1, [], .string ⟨⟨b_⟩⟩), (2, [], .string ⟨⟨c_⟩⟩), (7, [], .string ⟨⟨y9⟩⟩), (8, [], .int .i64 v27)] a' ∧ SH M X w [] w') ⟨_, 0, hm, FrG.keep (ks := [0, 1, 2, 7, 8]) H26 (by kernel_rfl), hS⟩ ?_
  clear hm H26 hS
  rintro kk _ wd42 ⟨v27, hm, H, hS⟩
  cases kk with
  | zero => exact noneE hm
  | succ kk =>
   rw [law01_InputLetters_L1] at hm
   refine w_seq ?_
   refine s_reg [] [0, 1, 2, 7, 8, 59] [(0, [], .string ⟨⟨a_⟩⟩), (1, [], .string ⟨⟨b_⟩⟩), (2, [], .string ⟨⟨c_⟩⟩), (7, [], .string ⟨⟨y9⟩⟩), (8, [], .int .i64 v27), (59, [], .bool (decide (v27 < (ln a_))))] [] H (by kernel_rfl) trivial fun _ wd28 H29 hb => ?_
   clear H
   replace hS := hS.below hb
   clear hb
   refine w_if H29 rfl (fun hc => ?_) (fun hc => ?c41)
   case c41 =>
    replace hm := bF hc hm
    refine w_exit rfl ?_
    obtain rfl := someE hm
    exact ⟨_, rfl, FrG.keep (ks := [0, 1, 2, 7]) H29 (by kernel_rfl), hS⟩
   replace hm := bT hc hm
   refine w_skip ?_
   refine w_seq ?_
   refine w_block ?_
   obtain ⟨ho30, hm⟩ := chkE hm
   obtain ⟨ho31, hm⟩ := chkE hm
   obtain ⟨x32, hx32, hm⟩ := letE hm
   obtain ⟨x33, hx33, hm⟩ := letE hm
   refine s_draw [] [0, 1, 2, 7, 8, 111] [(0, [], .string ⟨⟨a_⟩⟩), (1, [], .string ⟨⟨b_⟩⟩), (2, [], .string ⟨⟨c_⟩⟩), (7, [], .string ⟨⟨y9⟩⟩), (8, [], .int .i64 v27), (111, [], .bool x33)] [fun _ => 0 ≤ v27 ∧ v27 < ln y9, fun _ => 0 ≤ v27 ∧ v27 < ln a_, fun _ => (((bat y9 v27) != (bat a_ v27)) = true ∧ True → 0 ≤ v27 ∧ v27 < ln a_), fun _ => ((decide ((bat a_ v27) < 65)) = false ∧ ((bat y9 v27) != (bat a_ v27)) = true ∧ True → 0 ≤ v27 ∧ v27 < ln a_), fun _ => ((cond (decide ((bat a_ v27) < 65)) true (decide (90 < (bat a_ v27)))) = false ∧ ((bat y9 v27) != (bat a_ v27)) = true ∧ True → 0 ≤ v27 ∧ v27 < ln y9), fun _ => ((cond (decide ((bat a_ v27) < 65)) true (decide (90 < (bat a_ v27)))) = false ∧ ((bat y9 v27) != (bat a_ v27)) = true ∧ True → 0 ≤ v27 ∧ v27 < ln a_), fun _ => (x32 = false ∧ True → 0 ≤ v27 ∧ v27 < ln a_), fun _ => ((decide (65 ≤ (bat a_ v27))) = true ∧ x32 = false ∧ True → 0 ≤ v27 ∧ v27 < ln a_), fun _ => ((cond (decide (65 ≤ (bat a_ v27))) (decide ((bat a_ v27) ≤ 90)) false) = true ∧ x32 = false ∧ True → 0 ≤ v27 ∧ v27 < ln y9), fun _ => ((cond (decide (65 ≤ (bat a_ v27))) (decide ((bat a_ v27) ≤ 90)) false) = true ∧ x32 = false ∧ True → 0 ≤ v27 ∧ v27 < ln a_)] H29 (by kernel_rfl) (by kernel_rfl) (by subst hx32 hx33; kernel_rfl) ⟨ho30, ho31, fun hg => ho31, fun hg => ho31, fun hg => ho30, fun hg => ho31, fun hg => ho31, fun hg => ho31, fun hg => ho30, fun hg => ho31, trivial⟩ fun _ wd34 H35 hb => ?_
   clear H29
   replace hS := hS.below hb
   clear hb
   refine w_if H35 rfl (fun hc => ?_) (fun hc => ?c40)
   case c40 =>
    replace hm := bF hc hm
    refine w_skip ?_
    refine w_reg [] [0, 1, 2, 7, 8] [(0, [], .string ⟨⟨a_⟩⟩), (1, [], .string ⟨⟨b_⟩⟩), (2, [], .string ⟨⟨c_⟩⟩), (7, [], .string ⟨⟨y9⟩⟩), (8, [], .int .i64 (w64 (v27 + 1)))] [] H35 (by kernel_rfl) trivial fun _ wd38 H39 hb => ?_
    clear H35
    replace hS := hS.below hb
    clear hb
    exact ⟨_, Nat.lt_succ_self _, w64 (v27 + 1), hm, FrG.keep (ks := [0, 1, 2, 7, 8]) H39 (by kernel_rfl), hS⟩
   replace hm := bT hc hm
   refine s_reg [] [6] [(6, [], .bool false)] [] H35 (by kernel_rfl) trivial fun _ wd36 H37 hb => ?_
   clear H35
   replace hS := hS.below hb
   clear hb
   refine w_ret ?_
   obtain rfl := someE hm
   have hm := hm_z24
   obtain rfl := someE hm
   exact retR1 H37 rfl rfl ⟨_, rfl, rfl, (hS.sel [] rfl)⟩
 ·rintro _ wd55 ⟨s_z24, hz, H, hS⟩
  subst hz
  replace hm := sumR hm_z24
  obtain ⟨y43, hy43, hm⟩ := bindE hm
  obtain ⟨y44, hy44, hm⟩ := bindE hm
  obtain ⟨y45, hy45, hm⟩ := bindE hm
  refine s_reg [(.bool y43), (.bool y44), (.bool y45)] [0, 1, 7, 9, 10, 11] [(0, [], .string ⟨⟨a_⟩⟩), (1, [], .string ⟨⟨b_⟩⟩), (7, [], .string ⟨⟨y9⟩⟩), (9, [], .bool y43), (10, [], .bool y44), (11, [], .bool y45)] [fun wz => RetB Try.prog 13 ⟨[.string ⟨⟨a_⟩⟩, .string ⟨⟨b_⟩⟩]⟩ (.bool y43) wz, fun wz => RetB Try.prog 13 ⟨[.string ⟨⟨b_⟩⟩, .string ⟨⟨c_⟩⟩]⟩ (.bool y44) wz, fun wz => RetB Try.prog 13 ⟨[.string ⟨⟨a_⟩⟩, .string ⟨⟨c_⟩⟩]⟩ (.bool y45) wz] H (by kernel_rfl) ⟨((input_Alike_ok m _ _ _ hy43).b), ((input_Alike_ok m _ _ _ hy44).b), ((input_Alike_ok m _ _ _ hy45).b), trivial⟩ fun _ wd46 H47 hb => ?_
  clear H
  replace hS := hS.below hb
  clear hb
  obtain ⟨y48, hy48, hm⟩ := bindE hm
  obtain ⟨y49, hy49, hm⟩ := bindE hm
  obtain ⟨x50, hx50, hm⟩ := letE hm
  obtain ⟨x51, hx51, hm⟩ := letE hm
  obtain ⟨y52, hy52, hm⟩ := bindE hm
  refine s_reg [(.bool y48), (.string ⟨⟨y49⟩⟩), (.bool y52)] [6] [(6, [], .bool (cond x51 y52 false))] [fun wz => RetB Try.prog 13 ⟨[.string ⟨⟨b_⟩⟩, .string ⟨⟨a_⟩⟩]⟩ (.bool y48) wz, fun wz => ((y43 == y48) = true ∧ True → RetB Try.prog 11 ⟨[.string ⟨⟨b_⟩⟩]⟩ (.string ⟨⟨y49⟩⟩) wz), fun wz => (x51 = true ∧ True → RetB Try.prog 24 ⟨[]⟩ (.bool y52) wz)] H47 (by subst hx50 hx51; kernel_rfl) ⟨((input_Alike_ok m _ _ _ hy48).b), fun hg => (input_Lower_ok m _ _ (bT (hg.1) hy49)).b, fun hg => (law01_alive_ok m _ (bT (hg.1) hy52)).b, trivial⟩ fun _ wd53 H54 hb => ?_
  clear H47
  replace hS := hS.below hb
  clear hb
  refine w_ret ?_
  obtain rfl := someE hm
  exact retR1 H54 rfl rfl ⟨_, rfl, rfl, (hS.sel [] rfl)⟩
theorem law01_InputLetters_ok  (m : Nat) (a_ : Str) (b_ : Str) (c_ : Str) (r : Bool) (hm : law01_InputLetters m a_ b_ c_ = some r) : Ret Try.prog 10 ⟨[.string ⟨⟨a_⟩⟩, .string ⟨⟨b_⟩⟩, .string ⟨⟨c_⟩⟩]⟩ (.bool r) := retP_of (Try.call10 _) (fun w h => law01_InputLetters_w F0 m   a_ b_ c_ r hm w h)

end Go.Proofs.Ytihckkbhieblkaa
