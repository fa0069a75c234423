/-
  What the Go functions compute, as Lean functions, and that a call returns just that. Printed by a program.
-/
import Derived.Test.YtehlikdeobajcaaDoorRows
import Derived.Test.YtehlikdeobajcaaDoorRF
import Derived.Test.YtehlikdeobajcaaDoorX
import Derived.Test.YtehlikdeobajcaaDoorW31c
set_option linter.unusedVariables false
set_option maxRecDepth 20000
set_option maxHeartbeats 4000000
namespace Go.Proofs.YtehlikdeobajcaaDoor
open Go.V Go.RowKit

theorem wide_Mean_ok {g_l_ : Gh} (m : Nat) (l_ : List TDeclared) (at_ : Int) (word : Str) (r : Int × Str × Int) (hm : wide_Mean m l_ at_ word = some r) (w : World) (hL : S0 F0 [Ent.im tyDeclared l_ g_l_, gE0] w ∧ fpl [Ent.im tyDeclared l_ g_l_, gE0] = []) : RetB Tryd.prog 8 ⟨[.slice g_l_.a l_.length g_l_.c, .int .i64 at_, .string ⟨⟨word⟩⟩]⟩ (.tuple ⟨[.int .i64 r.1, .string ⟨⟨r.2.1⟩⟩, .int .i64 r.2.2]⟩) w := retB_of hL (Tryd.call8 _) (fun w' h => wide_Mean_w F0 m   l_ at_ word r hm w' h)

def wide_clone_S (rec_ : (List TValue) → Option (List TValue)) : Prop := ∀ (g_l_ : Gh) (M : Av) (l_ : List TValue) (r : List TValue), rec_ l_ = some r → ∀ w, S0 M [Ent.im tyValue l_ g_l_] w → Calls Tryd.prog 18 ⟨[.slice g_l_.a l_.length g_l_.c]⟩ w (fun e w' => ∃ v, e = .returned v ∧ ∃ (g901 : Gh), v = .slice g901.a r.length g901.c ∧ SH M (fpl [Ent.im tyValue l_ g_l_]) w [Ent.own 80 tyValue r g901] w')
def wide_clone_L1 (m : Nat) (l_ : List TValue) (rec_wide_clone : (List TValue) → Option (List TValue)) : Nat → (List TValue) → Int → Option (List TValue)
  | 0, _, _ => none
  | kk + 1, v9, v11 =>
    cond (decide (v11 < (ln l_))) (
    chk (0 ≤ v11 ∧ v11 < ln l_) <|
    Option.bind (rec_wide_clone ((gi l_ v11).List_)) fun y24 =>
    chk (ln v9 + ln ([(TValue.mk ((gi l_ v11).Token) y24)] : List TValue) ≤ 1099511627776) <|
    lt (v9 ++ ([(TValue.mk ((gi l_ v11).Token) y24)] : List TValue)) fun q30 =>
    wide_clone_L1 m l_ rec_wide_clone kk q30 (w64 (v11 + 1))) (
    some v9)
def wide_clone_r (m : Nat) : Nat → (List TValue) → Option (List TValue)
  | 0, _ => none
  | k + 1, l_ =>
    Option.bind (
    wide_clone_L1 m l_ (wide_clone_r m k) m ([] : List TValue) 0) fun (z5 : List TValue) =>
    some z5
theorem wide_clone_w (m : Nat) : ∀ (k : Nat), wide_clone_S (wide_clone_r m  k) := by
 intro k
 induction k with
 | zero => intro g_l_ M l_ r hm; exact noneE hm
 | succ k ih =>
  intro g_l_ M l_ r hm w hS
  rw [wide_clone_r] at hm
  have hS0 : SH M (fpl [Ent.im tyValue l_ g_l_]) w [Ent.im tyValue l_ g_l_] w := hS
  generalize hX : fpl [Ent.im tyValue l_ g_l_] = X at hS0 ⊢
  clear hS hX
  have hS := hS0
  clear hS0
  refine calls_entryP Tryd.func18 rfl Tryd.ntmps18 rfl fun _ H => ?_
  refine s_reg [] [0] [(0, [], .slice g_l_.a l_.length g_l_.c)] [] H (by kernel_rfl) trivial fun _ wd1 H2 hb => ?_
  clear H
  replace hS := hS.below hb
  clear hb
  refine s_reg [] [0, 3] [(0, [], .slice g_l_.a l_.length g_l_.c), (3, [], .slice none 0 0)] [] H2 (by kernel_rfl) trivial fun _ wd3 H4 hb => ?_
  clear H2
  replace hS := hS.below hb
  clear hb
  obtain ⟨z5, hz, hm⟩ := bindE hm
  refine w_cut (fun a' w' => ∃ (g42 : Gh), Fr 23 [(3, [], .slice g42.a z5.length g42.c)] a' ∧ SH M X w [Ent.own 80 tyValue z5 g42, Ent.im tyValue l_ g_l_] w') ?_ ?_
  ·replace hm := hz
   refine s_reg [] [3, 6, 7, 8] [(3, [], .slice none 0 0), (6, [], .slice g_l_.a l_.length g_l_.c), (7, [], .int .i64 (ln l_)), (8, [], .int .i64 0)] [] H4 (by kernel_rfl) trivial fun _ wd6 H7 hb => ?_
   clear H4
   replace hS := hS.below hb
   clear hb
   refine w_block ?_
   replace hS : SH M X w [Ent.own 80 tyValue ([] : List TValue) (.nil), Ent.im tyValue l_ g_l_] _ := hS.addNil 80 tyValue
   refine w_loop (fun kk a' w' => ∃ (v9 : List TValue) (v11 : Int) (g10 : Gh), wide_clone_L1 m l_ (wide_clone_r m k) kk v9 v11 = some _ ∧ Fr 23 [(6, [], .slice g_l_.a l_.length g_l_.c), (7, [], .int .i64 (ln l_)), (3, [], .slice g10.a v9.length g10.c), (8, [], .int .i64 v11)] a' ∧ SH M X w [Ent.own 80 tyValue v9 g10, Ent.im tyValue l_ g_l_] w') ⟨_, ([] : List TValue), 0, Gh.nil, hm, FrG.keep (ks := [6, 7, 3, 8]) H7 (by kernel_rfl), hS⟩ ?_
   clear hm H7 hS
   rintro kk _ wd41 ⟨v9, v11, g10, hm, H, hS⟩
   cases kk with
   | zero => exact noneE hm
   | succ kk =>
    rw [wide_clone_L1] at hm
    refine s_reg [] [3, 6, 7, 8, 9] [(3, [], .slice g10.a v9.length g10.c), (6, [], .slice g_l_.a l_.length g_l_.c), (7, [], .int .i64 (ln l_)), (8, [], .int .i64 v11), (9, [], .bool (decide (v11 < (ln l_))))] [] H (by kernel_rfl) trivial fun _ wd12 H13 hb => ?_
    clear H
    replace hS := hS.below hb
    clear hb
    refine w_seq ?_
    refine w_if H13 rfl (fun hc => ?_) (fun hc => ?c40)
    case c40 =>
     replace hm := bF hc hm
     refine w_exit rfl ?_
     obtain rfl := someE hm
     exact ⟨g10, FrG.keep (ks := [3]) H13 (by kernel_rfl), hS⟩
    replace hm := bT hc hm
    refine w_skip ?_
    refine w_seq ?_
    refine w_block ?_
    refine w_seq ?_
    refine wl_start ?_
    obtain ⟨ho14, hm⟩ := chkE hm
    refine wl_batch 0 2 [(.agg ⟨[.int .u8 ((gi l_ v11).Token.Kind), .string ⟨⟨(gi l_ v11).Token.Text⟩⟩, .int .i64 ((gi l_ v11).Token.Num), .string ⟨⟨(gi l_ v11).Token.Unit⟩⟩, .bool ((gi l_ v11).Token.Flag), .slice (g_l_.s (v11).toNat 0).a (((gi l_ v11).List_).length) (g_l_.s (v11).toNat 0).c]⟩)] [3, 6, 7, 8, 11] [(3, [], .slice g10.a v9.length g10.c), (6, [], .slice g_l_.a l_.length g_l_.c), (7, [], .int .i64 (ln l_)), (8, [], .int .i64 v11), (11, [], .agg ⟨[.int .u8 ((gi l_ v11).Token.Kind), .string ⟨⟨(gi l_ v11).Token.Text⟩⟩, .int .i64 ((gi l_ v11).Token.Num), .string ⟨⟨(gi l_ v11).Token.Unit⟩⟩, .bool ((gi l_ v11).Token.Flag), .slice (g_l_.s (v11).toNat 0).a (((gi l_ v11).List_).length) (g_l_.s (v11).toNat 0).c]⟩)] [fun _ => oka g_l_.a ∧ 0 ≤ v11 ∧ v11 < ln l_, fun wz => V.atN (ab g_l_.a) (ao g_l_.a + (v11).toNat * 6) [.int .u8 ((gi l_ v11).Token.Kind), .string ⟨⟨(gi l_ v11).Token.Text⟩⟩, .int .i64 ((gi l_ v11).Token.Num), .string ⟨⟨(gi l_ v11).Token.Unit⟩⟩, .bool ((gi l_ v11).Token.Flag), .slice (g_l_.s (v11).toNat 0).a (((gi l_ v11).List_).length) (g_l_.s (v11).toNat 0).c] 0 wz] H13 (by decide) (by kernel_rfl) ⟨((hS.im 1 rfl).oki ho14), ((hS.im 1 rfl).atA ho14 0 rfl), trivial⟩ fun _ wd15 H16 hb => ?_
    clear H13
    replace hS := hS.below hb
    clear hb
    have hd := hS.hand [] [0, 1] rfl rfl
    refine m_stp [5, 3, 6, 7, 8, 11] [(3, [], .slice g10.a v9.length g10.c), (6, [], .slice g_l_.a l_.length g_l_.c), (7, [], .int .i64 (ln l_)), (8, [], .int .i64 v11), (11, [], .agg ⟨[.int .u8 ((gi l_ v11).Token.Kind), .string ⟨⟨(gi l_ v11).Token.Text⟩⟩, .int .i64 ((gi l_ v11).Token.Num), .string ⟨⟨(gi l_ v11).Token.Unit⟩⟩, .bool ((gi l_ v11).Token.Flag), .slice (g_l_.s (v11).toNat 0).a (((gi l_ v11).List_).length) (g_l_.s (v11).toNat 0).c]⟩)] H16 rfl rfl rfl rfl (o_alloc [.int .u8 0, .string ⟨⟨[]⟩⟩, .int .i64 0, .string ⟨⟨[]⟩⟩, .bool false, .slice none 0 0] (z := .agg ⟨[.int .u8 0, .string ⟨⟨[]⟩⟩, .int .i64 0, .string ⟨⟨[]⟩⟩, .bool false, .slice none 0 0]⟩) hd (by kernel_rfl) rfl) (fun _ => rfl) fun _ wd18 v H19 hq => ?_
    clear H16 hd
    obtain ⟨b17, rfl, hq⟩ := hq
    replace hS : SH M X w [Ent.blk b17 [.int .u8 0, .string ⟨⟨[]⟩⟩, .int .i64 0, .string ⟨⟨[]⟩⟩, .bool false, .slice none 0 0], Ent.own 80 tyValue v9 g10, Ent.im tyValue l_ g_l_] _ := hS.join [] [0, 1] rfl rfl hq
    clear hq
    have hd := hS.hand [0] [1, 2] rfl rfl
    refine m_stp0 [3, 5, 6, 7, 8] [(3, [], .slice g10.a v9.length g10.c), (5, [], .pointer (some ⟨b17, 0, none⟩)), (6, [], .slice g_l_.a l_.length g_l_.c), (7, [], .int .i64 (ln l_)), (8, [], .int .i64 v11)] H19 rfl rfl rfl (o_store [.int .u8 ((gi l_ v11).Token.Kind), .string ⟨⟨(gi l_ v11).Token.Text⟩⟩, .int .i64 ((gi l_ v11).Token.Num), .string ⟨⟨(gi l_ v11).Token.Unit⟩⟩, .bool ((gi l_ v11).Token.Flag), .slice (g_l_.s (v11).toNat 0).a (((gi l_ v11).List_).length) (g_l_.s (v11).toNat 0).c] H19 hd rfl rfl (by kernel_rfl) rfl rfl rfl) rfl fun _ wd20 H21 hq => ?_
    clear H19 hd
    obtain ⟨_, hq⟩ := hq
    replace hS : SH M X w [Ent.blk b17 [.int .u8 ((gi l_ v11).Token.Kind), .string ⟨⟨(gi l_ v11).Token.Text⟩⟩, .int .i64 ((gi l_ v11).Token.Num), .string ⟨⟨(gi l_ v11).Token.Unit⟩⟩, .bool ((gi l_ v11).Token.Flag), .slice (g_l_.s (v11).toNat 0).a (((gi l_ v11).List_).length) (g_l_.s (v11).toNat 0).c], Ent.own 80 tyValue v9 g10, Ent.im tyValue l_ g_l_] _ := hS.join [0] [1, 2] rfl rfl hq
    clear hq
    refine wl_end rfl ?_
    obtain ⟨y24, hy24, hm⟩ := bindE hm
    obtain ⟨ho29, hm⟩ := chkE hm
    obtain ⟨q30, hq30, hm⟩ := letE hm
    refine w_drawS (base := [(5, [], .pointer (some ⟨b17, 0, none⟩)), (6, [], .slice g_l_.a l_.length g_l_.c), (7, [], .int .i64 (ln l_)), (8, [], .int .i64 v11)]) (L := [Ent.blk b17 [.int .u8 ((gi l_ v11).Token.Kind), .string ⟨⟨(gi l_ v11).Token.Text⟩⟩, .int .i64 ((gi l_ v11).Token.Num), .string ⟨⟨(gi l_ v11).Token.Unit⟩⟩, .bool ((gi l_ v11).Token.Flag), .slice (g_l_.s (v11).toNat 0).a (((gi l_ v11).List_).length) (g_l_.s (v11).toNat 0).c], Ent.own 80 tyValue v9 g10, Ent.im tyValue l_ g_l_]) 10 3 (fun yg22 => [.slice g10.a v9.length g10.c, .pointer (some ⟨b17, 0, none⟩), .agg ⟨[.int .u8 ((gi l_ v11).Token.Kind), .string ⟨⟨(gi l_ v11).Token.Text⟩⟩, .int .i64 ((gi l_ v11).Token.Num), .string ⟨⟨(gi l_ v11).Token.Unit⟩⟩, .bool ((gi l_ v11).Token.Flag)]⟩, .pointer (some ⟨b17, 5, none⟩), .slice (g_l_.s (v11).toNat 0).a (((gi l_ v11).List_).length) (g_l_.s (v11).toNat 0).c, .slice (yg22 5 0).a y24.length (yg22 5 0).c, .agg ⟨[.int .u8 ((gi l_ v11).Token.Kind), .string ⟨⟨(gi l_ v11).Token.Text⟩⟩, .int .i64 ((gi l_ v11).Token.Num), .string ⟨⟨(gi l_ v11).Token.Unit⟩⟩, .bool ((gi l_ v11).Token.Flag), .slice (yg22 5 0).a y24.length (yg22 5 0).c]⟩, .slice (yg22 7 0).a 1 (yg22 7 0).c, .slice (yg22 8 0).a q30.length (yg22 8 0).c, .slice (yg22 8 0).a q30.length (yg22 8 0).c]) (fun yg22 => [[], [], [], [], [], [Ent.own 80 tyValue y24 (yg22 5 0), Ent.im tyValue ((gi l_ v11).List_) (g_l_.s (v11).toNat 0)], [], [Ent.own 80 tyValue ([(TValue.mk ((gi l_ v11).Token) y24)] : List TValue) (yg22 7 0), Ent.im tyValue y24 (yg22 5 0), Ent.im tyValue ((gi l_ v11).List_) (g_l_.s (v11).toNat 0)], [Ent.own 80 tyValue q30 (yg22 8 0)], []]) [[11], [10, 12], [10, 12], [10, 12], [10, 12], [12], [5], [5], [7, 11], [8]] [[], [], [], [], [], [], [], [5], [11], []] [[0], [1], [1, 2], [3], [3, 4], [3, 4, 5], [1, 2, 3, 4, 5, 6], [1, 2, 3, 4, 5, 6, 7], [0, 1, 2, 3, 4, 5, 6, 7, 8], [0, 1, 2, 3, 4, 5, 6, 7, 8, 9]] [(3, 9, .slice g10.a v9.length g10.c)] (FrG.keep (ks := [5, 6, 7, 8]) H21 (by kernel_rfl)) (fun k e h => by rcases k with _ | k <;> first | (obtain rfl := Option.some.inj h; exact FrG.slot H21 (by kernel_rfl)) | cases h) (by kernel_rfl) hS (by kernel_rfl) rfl rfl (by kernel_rfl) (by kernel_rfl) (by kernel_rfl) (gd_none (by kernel_rfl) _ _) ?hloc_yg22 ?hstep_yg22 fun _ wd32 yg22 H33 hv hS => ?hK_yg22
    case hloc_yg22 => exact ⟨(fun _ _ _ _ => ⟨rfl, rfl⟩), (fun _ _ _ _ => ⟨rfl, rfl⟩), (fun _ _ _ _ => ⟨rfl, rfl⟩), (fun _ _ _ _ => ⟨rfl, rfl⟩), (fun _ _ _ _ => ⟨rfl, rfl⟩), (fun yg22 i g hi => by have h5 : updC yg22 i g 5 = yg22 5 := updC_out hi rfl; exact ⟨(show (.slice ((updC yg22 i g) 5 0).a y24.length ((updC yg22 i g) 5 0).c : Value) = .slice (yg22 5 0).a y24.length (yg22 5 0).c by simp only [h5]), (show ([Ent.own 80 tyValue y24 ((updC yg22 i g) 5 0), Ent.im tyValue ((gi l_ v11).List_) (g_l_.s (v11).toNat 0)] : List Ent) = [Ent.own 80 tyValue y24 (yg22 5 0), Ent.im tyValue ((gi l_ v11).List_) (g_l_.s (v11).toNat 0)] by simp only [h5])⟩), (fun yg22 i g hi => by have h5 : updC yg22 i g 5 = yg22 5 := updC_out hi rfl; exact ⟨(show (.agg ⟨[.int .u8 ((gi l_ v11).Token.Kind), .string ⟨⟨(gi l_ v11).Token.Text⟩⟩, .int .i64 ((gi l_ v11).Token.Num), .string ⟨⟨(gi l_ v11).Token.Unit⟩⟩, .bool ((gi l_ v11).Token.Flag), .slice ((updC yg22 i g) 5 0).a y24.length ((updC yg22 i g) 5 0).c]⟩ : Value) = .agg ⟨[.int .u8 ((gi l_ v11).Token.Kind), .string ⟨⟨(gi l_ v11).Token.Text⟩⟩, .int .i64 ((gi l_ v11).Token.Num), .string ⟨⟨(gi l_ v11).Token.Unit⟩⟩, .bool ((gi l_ v11).Token.Flag), .slice (yg22 5 0).a y24.length (yg22 5 0).c]⟩ by simp only [h5]), (show ([] : List Ent) = [] by simp only [])⟩), (fun yg22 i g hi => by have h5 : updC yg22 i g 5 = yg22 5 := updC_out hi rfl; have h7 : updC yg22 i g 7 = yg22 7 := updC_out hi rfl; exact ⟨(show (.slice ((updC yg22 i g) 7 0).a 1 ((updC yg22 i g) 7 0).c : Value) = .slice (yg22 7 0).a 1 (yg22 7 0).c by simp only [h7]), (show ([Ent.own 80 tyValue ([(TValue.mk ((gi l_ v11).Token) y24)] : List TValue) ((updC yg22 i g) 7 0), Ent.im tyValue y24 ((updC yg22 i g) 5 0), Ent.im tyValue ((gi l_ v11).List_) (g_l_.s (v11).toNat 0)] : List Ent) = [Ent.own 80 tyValue ([(TValue.mk ((gi l_ v11).Token) y24)] : List TValue) (yg22 7 0), Ent.im tyValue y24 (yg22 5 0), Ent.im tyValue ((gi l_ v11).List_) (g_l_.s (v11).toNat 0)] by simp only [h5, h7])⟩), (fun yg22 i g hi => by have h8 : updC yg22 i g 8 = yg22 8 := updC_out hi rfl; exact ⟨(show (.slice ((updC yg22 i g) 8 0).a q30.length ((updC yg22 i g) 8 0).c : Value) = .slice (yg22 8 0).a q30.length (yg22 8 0).c by simp only [h8]), (show ([Ent.own 80 tyValue q30 ((updC yg22 i g) 8 0)] : List Ent) = [Ent.own 80 tyValue q30 (yg22 8 0)] by simp only [h8])⟩), (fun yg22 i g hi => by have h8 : updC yg22 i g 8 = yg22 8 := updC_out hi rfl; exact ⟨(show (.slice ((updC yg22 i g) 8 0).a q30.length ((updC yg22 i g) 8 0).c : Value) = .slice (yg22 8 0).a q30.length (yg22 8 0).c by simp only [h8]), (show ([] : List Ent) = [] by simp only [])⟩), trivial⟩
    case hstep_yg22 =>
     refine ⟨?_, ?_, ?_, ?_, ?_, ?_, ?_, ?_, ?_, ?_, trivial⟩
     ·intro o ho a w yg22 M Hb hv hO hS0
      obtain rfl := Option.some.inj ho
      have H : Fr 23 ([(3, [], .slice g10.a v9.length g10.c)] ++ [(5, [], .pointer (some ⟨b17, 0, none⟩)), (6, [], .slice g_l_.a l_.length g_l_.c), (7, [], .int .i64 (ln l_)), (8, [], .int .i64 v11)]) _ := (Hb).add (hO 0 _ rfl (by kernel_rfl))
      obtain ⟨X, hX⟩ : ∃ X, X = fpl [Ent.own 80 tyValue v9 g10] := ⟨_, rfl⟩
      have hS : SH M X w [Ent.own 80 tyValue v9 g10] w := by rw [hX]; exact hS0
      refine Stp.mono (o_evs [] (.slice g10.a v9.length g10.c) none [] H rfl (by kernel_rfl) (fun q e => by cases e)) ?_
      rintro v w2 ⟨rfl, hq⟩
      replace hS : SH M X w [Ent.own 80 tyValue v9 g10] _ := hS.below hq.below
      rw [hX] at hS
      exact ⟨gL [], fun _ _ => rfl, hS.sel [0] rfl⟩
     ·intro o ho a w yg22 M Hb hv hO hS0
      obtain rfl := Option.some.inj ho
      have H : Fr 23 ([] ++ [(5, [], .pointer (some ⟨b17, 0, none⟩)), (6, [], .slice g_l_.a l_.length g_l_.c), (7, [], .int .i64 (ln l_)), (8, [], .int .i64 v11)]) _ := Hb
      obtain ⟨X, hX⟩ : ∃ X, X = fpl [Ent.blk b17 [.int .u8 ((gi l_ v11).Token.Kind), .string ⟨⟨(gi l_ v11).Token.Text⟩⟩, .int .i64 ((gi l_ v11).Token.Num), .string ⟨⟨(gi l_ v11).Token.Unit⟩⟩, .bool ((gi l_ v11).Token.Flag), .slice (g_l_.s (v11).toNat 0).a (((gi l_ v11).List_).length) (g_l_.s (v11).toNat 0).c], Ent.im tyValue l_ g_l_] := ⟨_, rfl⟩
      have hS : SH M X w [Ent.blk b17 [.int .u8 ((gi l_ v11).Token.Kind), .string ⟨⟨(gi l_ v11).Token.Text⟩⟩, .int .i64 ((gi l_ v11).Token.Num), .string ⟨⟨(gi l_ v11).Token.Unit⟩⟩, .bool ((gi l_ v11).Token.Flag), .slice (g_l_.s (v11).toNat 0).a (((gi l_ v11).List_).length) (g_l_.s (v11).toNat 0).c], Ent.im tyValue l_ g_l_] w := by rw [hX]; exact hS0
      refine Stp.mono (o_evs [] (.pointer (some ⟨b17, 0, none⟩)) none [] H rfl (by kernel_rfl) (fun q e => by cases e)) ?_
      rintro v w2 ⟨rfl, hq⟩
      replace hS : SH M X w [Ent.blk b17 [.int .u8 ((gi l_ v11).Token.Kind), .string ⟨⟨(gi l_ v11).Token.Text⟩⟩, .int .i64 ((gi l_ v11).Token.Num), .string ⟨⟨(gi l_ v11).Token.Unit⟩⟩, .bool ((gi l_ v11).Token.Flag), .slice (g_l_.s (v11).toNat 0).a (((gi l_ v11).List_).length) (g_l_.s (v11).toNat 0).c], Ent.im tyValue l_ g_l_] _ := hS.below hq.below
      rw [hX] at hS
      exact ⟨gL [], fun _ _ => rfl, hS.sel [0, 1] rfl⟩
     ·intro o ho a w yg22 M Hb hv hO hS0
      obtain rfl := Option.some.inj ho
      have H : Fr 23 ([(13, [], .pointer (some ⟨b17, 0, none⟩))] ++ [(5, [], .pointer (some ⟨b17, 0, none⟩)), (6, [], .slice g_l_.a l_.length g_l_.c), (7, [], .int .i64 (ln l_)), (8, [], .int .i64 v11)]) _ := (Hb).add (hv 1 (by decide) (by decide) 13 rfl)
      obtain ⟨X, hX⟩ : ∃ X, X = fpl [Ent.blk b17 [.int .u8 ((gi l_ v11).Token.Kind), .string ⟨⟨(gi l_ v11).Token.Text⟩⟩, .int .i64 ((gi l_ v11).Token.Num), .string ⟨⟨(gi l_ v11).Token.Unit⟩⟩, .bool ((gi l_ v11).Token.Flag), .slice (g_l_.s (v11).toNat 0).a (((gi l_ v11).List_).length) (g_l_.s (v11).toNat 0).c], Ent.im tyValue l_ g_l_] := ⟨_, rfl⟩
      have hS : SH M X w [Ent.blk b17 [.int .u8 ((gi l_ v11).Token.Kind), .string ⟨⟨(gi l_ v11).Token.Text⟩⟩, .int .i64 ((gi l_ v11).Token.Num), .string ⟨⟨(gi l_ v11).Token.Unit⟩⟩, .bool ((gi l_ v11).Token.Flag), .slice (g_l_.s (v11).toNat 0).a (((gi l_ v11).List_).length) (g_l_.s (v11).toNat 0).c], Ent.im tyValue l_ g_l_] w := by rw [hX]; exact hS0
      refine Stp.mono (o_evs [(.agg ⟨[.int .u8 ((gi l_ v11).Token.Kind), .string ⟨⟨(gi l_ v11).Token.Text⟩⟩, .int .i64 ((gi l_ v11).Token.Num), .string ⟨⟨(gi l_ v11).Token.Unit⟩⟩, .bool ((gi l_ v11).Token.Flag)]⟩)] (.agg ⟨[.int .u8 ((gi l_ v11).Token.Kind), .string ⟨⟨(gi l_ v11).Token.Text⟩⟩, .int .i64 ((gi l_ v11).Token.Num), .string ⟨⟨(gi l_ v11).Token.Unit⟩⟩, .bool ((gi l_ v11).Token.Flag)]⟩) (some (fun wz => V.atN b17 0 [.int .u8 ((gi l_ v11).Token.Kind), .string ⟨⟨(gi l_ v11).Token.Text⟩⟩, .int .i64 ((gi l_ v11).Token.Num), .string ⟨⟨(gi l_ v11).Token.Unit⟩⟩, .bool ((gi l_ v11).Token.Flag)] 0 wz)) [] H rfl (by kernel_rfl) (fun q e => by cases e; exact ((hS.bk 0 rfl).atD rfl))) ?_
      rintro v w2 ⟨rfl, hq⟩
      replace hS : SH M X w [Ent.blk b17 [.int .u8 ((gi l_ v11).Token.Kind), .string ⟨⟨(gi l_ v11).Token.Text⟩⟩, .int .i64 ((gi l_ v11).Token.Num), .string ⟨⟨(gi l_ v11).Token.Unit⟩⟩, .bool ((gi l_ v11).Token.Flag), .slice (g_l_.s (v11).toNat 0).a (((gi l_ v11).List_).length) (g_l_.s (v11).toNat 0).c], Ent.im tyValue l_ g_l_] _ := hS.below hq.below
      rw [hX] at hS
      exact ⟨gL [], fun _ _ => rfl, hS.sel [0, 1] rfl⟩
     ·intro o ho a w yg22 M Hb hv hO hS0
      obtain rfl := Option.some.inj ho
      have H : Fr 23 ([] ++ [(5, [], .pointer (some ⟨b17, 0, none⟩)), (6, [], .slice g_l_.a l_.length g_l_.c), (7, [], .int .i64 (ln l_)), (8, [], .int .i64 v11)]) _ := Hb
      obtain ⟨X, hX⟩ : ∃ X, X = fpl [Ent.blk b17 [.int .u8 ((gi l_ v11).Token.Kind), .string ⟨⟨(gi l_ v11).Token.Text⟩⟩, .int .i64 ((gi l_ v11).Token.Num), .string ⟨⟨(gi l_ v11).Token.Unit⟩⟩, .bool ((gi l_ v11).Token.Flag), .slice (g_l_.s (v11).toNat 0).a (((gi l_ v11).List_).length) (g_l_.s (v11).toNat 0).c], Ent.im tyValue l_ g_l_] := ⟨_, rfl⟩
      have hS : SH M X w [Ent.blk b17 [.int .u8 ((gi l_ v11).Token.Kind), .string ⟨⟨(gi l_ v11).Token.Text⟩⟩, .int .i64 ((gi l_ v11).Token.Num), .string ⟨⟨(gi l_ v11).Token.Unit⟩⟩, .bool ((gi l_ v11).Token.Flag), .slice (g_l_.s (v11).toNat 0).a (((gi l_ v11).List_).length) (g_l_.s (v11).toNat 0).c], Ent.im tyValue l_ g_l_] w := by rw [hX]; exact hS0
      refine Stp.mono (o_evs [] (.pointer (some ⟨b17, 5, none⟩)) none [] H rfl (by kernel_rfl) (fun q e => by cases e)) ?_
      rintro v w2 ⟨rfl, hq⟩
      replace hS : SH M X w [Ent.blk b17 [.int .u8 ((gi l_ v11).Token.Kind), .string ⟨⟨(gi l_ v11).Token.Text⟩⟩, .int .i64 ((gi l_ v11).Token.Num), .string ⟨⟨(gi l_ v11).Token.Unit⟩⟩, .bool ((gi l_ v11).Token.Flag), .slice (g_l_.s (v11).toNat 0).a (((gi l_ v11).List_).length) (g_l_.s (v11).toNat 0).c], Ent.im tyValue l_ g_l_] _ := hS.below hq.below
      rw [hX] at hS
      exact ⟨gL [], fun _ _ => rfl, hS.sel [0, 1] rfl⟩
     ·intro o ho a w yg22 M Hb hv hO hS0
      obtain rfl := Option.some.inj ho
      have H : Fr 23 ([(15, [], .pointer (some ⟨b17, 5, none⟩))] ++ [(5, [], .pointer (some ⟨b17, 0, none⟩)), (6, [], .slice g_l_.a l_.length g_l_.c), (7, [], .int .i64 (ln l_)), (8, [], .int .i64 v11)]) _ := (Hb).add (hv 3 (by decide) (by decide) 15 rfl)
      obtain ⟨X, hX⟩ : ∃ X, X = fpl [Ent.blk b17 [.int .u8 ((gi l_ v11).Token.Kind), .string ⟨⟨(gi l_ v11).Token.Text⟩⟩, .int .i64 ((gi l_ v11).Token.Num), .string ⟨⟨(gi l_ v11).Token.Unit⟩⟩, .bool ((gi l_ v11).Token.Flag), .slice (g_l_.s (v11).toNat 0).a (((gi l_ v11).List_).length) (g_l_.s (v11).toNat 0).c], Ent.im tyValue l_ g_l_] := ⟨_, rfl⟩
      have hS : SH M X w [Ent.blk b17 [.int .u8 ((gi l_ v11).Token.Kind), .string ⟨⟨(gi l_ v11).Token.Text⟩⟩, .int .i64 ((gi l_ v11).Token.Num), .string ⟨⟨(gi l_ v11).Token.Unit⟩⟩, .bool ((gi l_ v11).Token.Flag), .slice (g_l_.s (v11).toNat 0).a (((gi l_ v11).List_).length) (g_l_.s (v11).toNat 0).c], Ent.im tyValue l_ g_l_] w := by rw [hX]; exact hS0
      refine Stp.mono (o_evs [(.slice (g_l_.s (v11).toNat 0).a (((gi l_ v11).List_).length) (g_l_.s (v11).toNat 0).c)] (.slice (g_l_.s (v11).toNat 0).a (((gi l_ v11).List_).length) (g_l_.s (v11).toNat 0).c) (some (fun wz => V.at1 ⟨b17, 5, none⟩ (.slice (g_l_.s (v11).toNat 0).a (((gi l_ v11).List_).length) (g_l_.s (v11).toNat 0).c) wz)) [] H rfl (by kernel_rfl) (fun q e => by cases e; exact ((hS.bk 0 rfl).at1 rfl))) ?_
      rintro v w2 ⟨rfl, hq⟩
      replace hS : SH M X w [Ent.blk b17 [.int .u8 ((gi l_ v11).Token.Kind), .string ⟨⟨(gi l_ v11).Token.Text⟩⟩, .int .i64 ((gi l_ v11).Token.Num), .string ⟨⟨(gi l_ v11).Token.Unit⟩⟩, .bool ((gi l_ v11).Token.Flag), .slice (g_l_.s (v11).toNat 0).a (((gi l_ v11).List_).length) (g_l_.s (v11).toNat 0).c], Ent.im tyValue l_ g_l_] _ := hS.below hq.below
      rw [hX] at hS
      exact ⟨gL [], fun _ _ => rfl, hS.sel [0, 1] rfl⟩
     ·intro o ho a w yg22 M Hb hv hO hS0
      obtain rfl := Option.some.inj ho
      have H : Fr 23 ([(16, [], .slice (g_l_.s (v11).toNat 0).a (((gi l_ v11).List_).length) (g_l_.s (v11).toNat 0).c)] ++ [(5, [], .pointer (some ⟨b17, 0, none⟩)), (6, [], .slice g_l_.a l_.length g_l_.c), (7, [], .int .i64 (ln l_)), (8, [], .int .i64 v11)]) _ := (Hb).add (hv 4 (by decide) (by decide) 16 rfl)
      obtain ⟨X, hX⟩ : ∃ X, X = fpl [Ent.im tyValue l_ g_l_] := ⟨_, rfl⟩
      have hS : SH M X w [Ent.im tyValue l_ g_l_] w := by rw [hX]; exact hS0
      replace hS : SH M X w [Ent.im tyValue ((gi l_ v11).List_) (g_l_.s (v11).toNat 0), Ent.im tyValue l_ g_l_] _ := hS.addIm (tyValue_i0 ((hS.im 0 rfl).el ho14))
      have hd := hS.hand [0] [0, 1] rfl rfl
      refine Stp.mono (o_callx H rfl rfl (⟨Tryd.call18 _, ih ((g_l_.s (v11).toNat 0)) _ _ _ hy24 _ hd⟩ : DoesX _ _ _ _ _)) ?_
      rintro v w2 hq
      obtain ⟨g25, rfl, hq⟩ := hq
      replace hS : SH M X w [Ent.own 80 tyValue y24 g25, Ent.im tyValue ((gi l_ v11).List_) (g_l_.s (v11).toNat 0), Ent.im tyValue l_ g_l_] _ := hS.join [0] [0, 1] rfl rfl hq
      clear hq
      rw [hX] at hS
      exact ⟨gL [g25], fun _ _ => rfl, hS.sel [0, 1, 2] rfl⟩
     ·intro o ho a w yg22 M Hb hv hO hS0
      obtain rfl := Option.some.inj ho
      have H : Fr 23 ([(17, [], .slice (yg22 5 0).a y24.length (yg22 5 0).c), (14, [], .agg ⟨[.int .u8 ((gi l_ v11).Token.Kind), .string ⟨⟨(gi l_ v11).Token.Text⟩⟩, .int .i64 ((gi l_ v11).Token.Num), .string ⟨⟨(gi l_ v11).Token.Unit⟩⟩, .bool ((gi l_ v11).Token.Flag)]⟩)] ++ [(5, [], .pointer (some ⟨b17, 0, none⟩)), (6, [], .slice g_l_.a l_.length g_l_.c), (7, [], .int .i64 (ln l_)), (8, [], .int .i64 v11)]) _ := ((Hb).add (hv 2 (by decide) (by decide) 14 rfl)).add (hv 5 (by decide) (by decide) 17 rfl)
      obtain ⟨X, hX⟩ : ∃ X, X = fpl [Ent.own 80 tyValue y24 (yg22 5 0), Ent.im tyValue ((gi l_ v11).List_) (g_l_.s (v11).toNat 0)] := ⟨_, rfl⟩
      have hS : SH M X w [Ent.own 80 tyValue y24 (yg22 5 0), Ent.im tyValue ((gi l_ v11).List_) (g_l_.s (v11).toNat 0)] w := by rw [hX]; exact hS0
      refine Stp.mono (o_evs [] (.agg ⟨[.int .u8 ((gi l_ v11).Token.Kind), .string ⟨⟨(gi l_ v11).Token.Text⟩⟩, .int .i64 ((gi l_ v11).Token.Num), .string ⟨⟨(gi l_ v11).Token.Unit⟩⟩, .bool ((gi l_ v11).Token.Flag), .slice (yg22 5 0).a y24.length (yg22 5 0).c]⟩) none [] H rfl (by kernel_rfl) (fun q e => by cases e)) ?_
      rintro v w2 ⟨rfl, hq⟩
      replace hS : SH M X w [Ent.own 80 tyValue y24 (yg22 5 0), Ent.im tyValue ((gi l_ v11).List_) (g_l_.s (v11).toNat 0)] _ := hS.below hq.below
      rw [hX] at hS
      exact ⟨gL [], fun _ _ => rfl, hS.sel [0, 1] rfl⟩
     ·intro o ho a w yg22 M Hb hv hO hS0
      obtain rfl := Option.some.inj ho
      have H : Fr 23 ([(18, [], .agg ⟨[.int .u8 ((gi l_ v11).Token.Kind), .string ⟨⟨(gi l_ v11).Token.Text⟩⟩, .int .i64 ((gi l_ v11).Token.Num), .string ⟨⟨(gi l_ v11).Token.Unit⟩⟩, .bool ((gi l_ v11).Token.Flag), .slice (yg22 5 0).a y24.length (yg22 5 0).c]⟩)] ++ [(5, [], .pointer (some ⟨b17, 0, none⟩)), (6, [], .slice g_l_.a l_.length g_l_.c), (7, [], .int .i64 (ln l_)), (8, [], .int .i64 v11)]) _ := (Hb).add (hv 6 (by decide) (by decide) 18 rfl)
      obtain ⟨X, hX⟩ : ∃ X, X = fpl [Ent.own 80 tyValue y24 (yg22 5 0), Ent.im tyValue ((gi l_ v11).List_) (g_l_.s (v11).toNat 0)] := ⟨_, rfl⟩
      have hS : SH M X w [Ent.own 80 tyValue y24 (yg22 5 0), Ent.im tyValue ((gi l_ v11).List_) (g_l_.s (v11).toNat 0)] w := by rw [hX]; exact hS0
      replace hS : SH M X w [Ent.im tyValue y24 (yg22 5 0), Ent.im tyValue ((gi l_ v11).List_) (g_l_.s (v11).toNat 0)] _ := SH.frz1 (hS.sel [0, 1] rfl)
      have hd := hS.hand [0] [0, 1] rfl rfl
      refine Stp.mono (o_lit (T := tyValue) (E := 80) (zv := .agg ⟨[.int .u8 0, .string ⟨⟨[]⟩⟩, .int .i64 0, .string ⟨⟨[]⟩⟩, .bool false, .slice none 0 0]⟩) [.int .u8 ((gi l_ v11).Token.Kind), .string ⟨⟨(gi l_ v11).Token.Text⟩⟩, .int .i64 ((gi l_ v11).Token.Num), .string ⟨⟨(gi l_ v11).Token.Unit⟩⟩, .bool ((gi l_ v11).Token.Flag), .slice (yg22 5 0).a y24.length (yg22 5 0).c] ([(TValue.mk ((gi l_ v11).Token) y24)] : List TValue) [gL [(yg22 5 0)]] _ H hd rfl (by kernel_rfl) (by kernel_rfl) (by kernel_rfl) (by kernel_rfl) (by kernel_rfl) (by kernel_rfl) (by kernel_rfl) rfl (InnL.cons (tyValue_mk (hd.im 0 rfl)) InnL.nil)) ?_
      rintro v w2 hq
      obtain ⟨g27, rfl, hq⟩ := hq
      replace hS : SH M X w [Ent.own 80 tyValue ([(TValue.mk ((gi l_ v11).Token) y24)] : List TValue) g27, Ent.im tyValue y24 (yg22 5 0), Ent.im tyValue ((gi l_ v11).List_) (g_l_.s (v11).toNat 0)] _ := hS.join [0] [0, 1] rfl rfl hq
      clear hq
      rw [hX] at hS
      exact ⟨gL [g27], fun _ _ => rfl, hS.sel [0, 1, 2] rfl⟩
     ·intro o ho a w yg22 M Hb hv hO hS0
      obtain rfl := Option.some.inj ho
      have H : Fr 23 ([(19, [], .slice (yg22 7 0).a 1 (yg22 7 0).c), (12, [], .slice g10.a v9.length g10.c)] ++ [(5, [], .pointer (some ⟨b17, 0, none⟩)), (6, [], .slice g_l_.a l_.length g_l_.c), (7, [], .int .i64 (ln l_)), (8, [], .int .i64 v11)]) _ := ((Hb).add (hv 0 (by decide) (by decide) 12 rfl)).add (hv 7 (by decide) (by decide) 19 rfl)
      obtain ⟨X, hX⟩ : ∃ X, X = fpl [Ent.own 80 tyValue ([(TValue.mk ((gi l_ v11).Token) y24)] : List TValue) (yg22 7 0), Ent.im tyValue y24 (yg22 5 0), Ent.im tyValue ((gi l_ v11).List_) (g_l_.s (v11).toNat 0), Ent.own 80 tyValue v9 g10] := ⟨_, rfl⟩
      have hS : SH M X w [Ent.own 80 tyValue ([(TValue.mk ((gi l_ v11).Token) y24)] : List TValue) (yg22 7 0), Ent.im tyValue y24 (yg22 5 0), Ent.im tyValue ((gi l_ v11).List_) (g_l_.s (v11).toNat 0), Ent.own 80 tyValue v9 g10] w := by rw [hX]; exact hS0
      have hd := hS.hand [3, 0] [1, 2] rfl rfl
      refine Stp.mono (o_app2 (T := tyValue) (zv := .agg ⟨[.int .u8 0, .string ⟨⟨[]⟩⟩, .int .i64 0, .string ⟨⟨[]⟩⟩, .bool false, .slice none 0 0]⟩) (g1 := g10) (g2 := (yg22 7 0)) (l1 := v9) (l2 := ([(TValue.mk ((gi l_ v11).Token) y24)] : List TValue)) q30 hq30.symm H hd rfl rfl rfl rfl rfl rfl rfl (by kernel_rfl) (by kernel_rfl) rfl rfl ho29) ?_
      rintro v w2 hq
      obtain ⟨g31, rfl, hq⟩ := hq
      replace hS : SH M X w [Ent.own 80 tyValue q30 g31, Ent.own 80 tyValue ([(TValue.mk ((gi l_ v11).Token) y24)] : List TValue) (yg22 7 0), Ent.im tyValue y24 (yg22 5 0), Ent.im tyValue ((gi l_ v11).List_) (g_l_.s (v11).toNat 0)] _ := hS.join [3, 0] [1, 2] rfl rfl hq
      clear hq
      rw [hX] at hS
      exact ⟨gL [g31], fun _ _ => rfl, hS.sel [0, 1, 2, 3] rfl⟩
     ·intro o ho a w yg22 M Hb hv hO hS0
      obtain rfl := Option.some.inj ho
      have H : Fr 23 ([(20, [], .slice (yg22 8 0).a q30.length (yg22 8 0).c)] ++ [(5, [], .pointer (some ⟨b17, 0, none⟩)), (6, [], .slice g_l_.a l_.length g_l_.c), (7, [], .int .i64 (ln l_)), (8, [], .int .i64 v11)]) _ := (Hb).add (hv 8 (by decide) (by decide) 20 rfl)
      obtain ⟨X, hX⟩ : ∃ X, X = fpl [Ent.own 80 tyValue q30 (yg22 8 0)] := ⟨_, rfl⟩
      have hS : SH M X w [Ent.own 80 tyValue q30 (yg22 8 0)] w := by rw [hX]; exact hS0
      refine Stp.mono (o_evs [] (.slice (yg22 8 0).a q30.length (yg22 8 0).c) none [] H rfl (by kernel_rfl) (fun q e => by cases e)) ?_
      rintro v w2 ⟨rfl, hq⟩
      replace hS : SH M X w [Ent.own 80 tyValue q30 (yg22 8 0)] _ := hS.below hq.below
      rw [hX] at hS
      exact ⟨gL [], fun _ _ => rfl, hS.sel [0] rfl⟩
    have H34 : Fr 23 [(3, [], .slice (yg22 8 0).a q30.length (yg22 8 0).c), (6, [], .slice g_l_.a l_.length g_l_.c), (7, [], .int .i64 (ln l_)), (8, [], .int .i64 v11)] _ := (FrG.add (FrG.keep (ks := [6, 7, 8]) H33 (by kernel_rfl)) (hv 9 3 rfl))
    replace hS : SH M X w [Ent.own 80 tyValue ([(TValue.mk ((gi l_ v11).Token) y24)] : List TValue) (yg22 7 0), Ent.im tyValue y24 (yg22 5 0), Ent.im tyValue ((gi l_ v11).List_) (g_l_.s (v11).toNat 0), Ent.own 80 tyValue q30 (yg22 8 0), Ent.blk b17 [.int .u8 ((gi l_ v11).Token.Kind), .string ⟨⟨(gi l_ v11).Token.Text⟩⟩, .int .i64 ((gi l_ v11).Token.Num), .string ⟨⟨(gi l_ v11).Token.Unit⟩⟩, .bool ((gi l_ v11).Token.Flag), .slice (g_l_.s (v11).toNat 0).a (((gi l_ v11).List_).length) (g_l_.s (v11).toNat 0).c], Ent.im tyValue l_ g_l_] _ := hS
    clear hv H33
    generalize yg22 8 0 = g35 at H34 hS
    generalize yg22 7 0 = g36 at H34 hS
    generalize yg22 5 0 = g37 at H34 hS
    replace hS : SH M X w [Ent.own 80 tyValue q30 g35, Ent.im tyValue l_ g_l_] _ := hS.sel [3, 5] rfl
    refine w_reg [] [3, 6, 7, 8] [(3, [], .slice g35.a q30.length g35.c), (6, [], .slice g_l_.a l_.length g_l_.c), (7, [], .int .i64 (ln l_)), (8, [], .int .i64 (w64 (v11 + 1)))] [] H34 (by kernel_rfl) trivial fun _ wd38 H39 hb => ?_
    clear H34
    replace hS := hS.below hb
    clear hb
    exact ⟨_, Nat.lt_succ_self _, q30, w64 (v11 + 1), g35, hm, FrG.keep (ks := [6, 7, 3, 8]) H39 (by kernel_rfl), hS⟩
  ·rintro _ wd46 ⟨g42, H, hS⟩
   replace hS : SH M X w [Ent.own 80 tyValue z5 g42] _ := hS.sel [0] rfl
   refine s_reg [] [2] [(2, [], .slice g42.a z5.length g42.c)] [] H (by kernel_rfl) trivial fun _ wd44 H45 hb => ?_
   clear H
   replace hS := hS.below hb
   clear hb
   refine w_ret ?_
   obtain rfl := someE hm
   exact retR1 H45 rfl rfl ⟨_, rfl, g42, rfl, (hS.sel [0] rfl)⟩
def wide_clone (m : Nat) (l_ : List TValue) : Option (List TValue) := wide_clone_r m  m l_
theorem wide_clone_ok {g_l_ : Gh} (m : Nat) (l_ : List TValue) (r : List TValue) (hm : wide_clone m l_ = some r) (M : Av) (w : World) (hS : S0 M [Ent.im tyValue l_ g_l_] w) : DoesX Tryd.prog 18 ⟨[.slice g_l_.a l_.length g_l_.c]⟩ w (fun v w' => ∃ (g901 : Gh), v = .slice g901.a r.length g901.c ∧ SH M (fpl [Ent.im tyValue l_ g_l_]) w [Ent.own 80 tyValue r g901] w') := ⟨Tryd.call18 _, wide_clone_w m   m g_l_ M l_ r hm w hS⟩

def wide_Lesser_L1 (m : Nat) (l_ : List TDeclared) (origin : Int) : Nat → (List TDeclared) → Int → Option (List TDeclared)
  | 0, _, _ => none
  | kk + 1, v23, v25 =>
    cond (decide (v25 < (ln l_))) (
    Option.bind (
    chk (0 ≤ v25 ∧ v25 < ln l_) <|
    cond (decide (((gi l_ v25).Origin) < origin)) (
    Option.bind (wide_clone m ((gi l_ v25).Long.Value)) fun y42 =>
    chk (ln v23 + ln ([(TDeclared.mk (TLong.mk ((gi l_ v25).Long.Name) y42 ((gi l_ v25).Long.Whole)) ((gi l_ v25).Important) ((gi l_ v25).Origin) ((gi l_ v25).Attached) ((gi l_ v25).Layer) ((gi l_ v25).Weight) ((gi l_ v25).Order))] : List TDeclared) ≤ 1099511627776) <|
    lt (v23 ++ ([(TDeclared.mk (TLong.mk ((gi l_ v25).Long.Name) y42 ((gi l_ v25).Long.Whole)) ((gi l_ v25).Important) ((gi l_ v25).Origin) ((gi l_ v25).Attached) ((gi l_ v25).Layer) ((gi l_ v25).Weight) ((gi l_ v25).Order))] : List TDeclared)) fun q58 =>
    some q58) (
    some v23)) fun (z28 : List TDeclared) =>
    wide_Lesser_L1 m l_ origin kk z28 (w64 (v25 + 1))) (
    some v23)
def wide_Lesser (m : Nat) (l_ : List TDeclared) (origin : Int) : Option ((List TDeclared) × Int) :=
  Option.bind (wide_asked m l_) fun y3 =>
  cond (y3 != 0) (
  some (([] : List TDeclared), y3)) (
  lt (cond (decide (origin < 1)) true (decide (3 < origin))) fun x11 =>
  cond x11 (
  some (([] : List TDeclared), 2)) (
  Option.bind (
  wide_Lesser_L1 m l_ origin m ([] : List TDeclared) 0) fun (z19 : List TDeclared) =>
  some (z19, 0)))
theorem wide_Lesser_w {g_l_ : Gh} (M : Av) (m : Nat) (l_ : List TDeclared) (origin : Int) (r : (List TDeclared) × Int) (hm : wide_Lesser m l_ origin = some r) (w : World) (hS : S0 M [Ent.im tyDeclared l_ g_l_, gE0] w) : Calls Tryd.prog 9 ⟨[.slice g_l_.a l_.length g_l_.c, .int .u8 origin]⟩ w (fun e w' => ∃ v, e = .returned v ∧ ∃ (g901 : Gh), v = .tuple ⟨[.slice g901.a r.1.length g901.c, .int .i64 r.2]⟩ ∧ SH M (fpl [Ent.im tyDeclared l_ g_l_, gE0]) w [Ent.own 31 tyDeclared r.1 g901] w') := by
 rw [wide_Lesser] at hm
 have hS0 : SH M (fpl [Ent.im tyDeclared l_ g_l_, gE0]) w [Ent.im tyDeclared l_ g_l_, gE0] w := hS
 generalize hX : fpl [Ent.im tyDeclared l_ g_l_, gE0] = X at hS0 ⊢
 clear hS hX
 have hS := hS0
 clear hS0
 refine calls_entryP Tryd.func9 rfl Tryd.ntmps9 rfl fun _ H => ?_
 refine s_reg [] [0, 1] [(0, [], .slice g_l_.a l_.length g_l_.c), (1, [], .int .u8 origin)] [] H (by kernel_rfl) trivial fun _ wd1 H2 hb => ?_
 clear H
 replace hS := hS.below hb
 clear hb
 refine w_seq ?_
 obtain ⟨y3, hy3, hm⟩ := bindE hm
 refine s_reg [(.int .i64 y3)] [0, 1, 6] [(0, [], .slice g_l_.a l_.length g_l_.c), (1, [], .int .u8 origin), (6, [], .int .i64 y3)] [fun wz => RetB Tryd.prog 13 ⟨[.slice g_l_.a l_.length g_l_.c]⟩ (.int .i64 y3) wz] H2 (by kernel_rfl) ⟨(wide_asked_ok (g_l_ := g_l_) m _ _ hy3 _ (s0im (s0im s0nil (hS.im 1 rfl)) (hS.im 0 rfl))), trivial⟩ fun _ wd4 H5 hb => ?_
 clear H2
 replace hS := hS.below hb
 clear hb
 refine s_reg [] [0, 1, 6, 13] [(0, [], .slice g_l_.a l_.length g_l_.c), (1, [], .int .u8 origin), (6, [], .int .i64 y3), (13, [], .bool (y3 != 0))] [] H5 (by kernel_rfl) trivial fun _ wd6 H7 hb => ?_
 clear H5
 replace hS := hS.below hb
 clear hb
 refine w_if H7 rfl (fun hc => ?c77) (fun hc => ?_)
 case c77 =>
  replace hm := bT hc hm
  refine s_reg [] [4, 5] [(4, [], .slice none 0 0), (5, [], .int .i64 y3)] [] H7 (by kernel_rfl) trivial fun _ wd8 H9 hb => ?_
  clear H7
  replace hS := hS.below hb
  clear hb
  replace hS : SH M X w [gE0] _ := hS.sel [1] rfl
  refine w_ret ?_
  obtain rfl := someE hm
  replace hS : SH M X w [Ent.own 31 tyDeclared ([] : List TDeclared) (.nil), gE0] _ := hS.addNil 31 tyDeclared
  exact retR2 H9 rfl rfl rfl ⟨_, rfl, Gh.nil, rfl, (hS.sel [0] rfl)⟩
 replace hm := bF hc hm
 refine w_skip ?_
 refine w_seq ?_
 obtain ⟨x11, hx11, hm⟩ := letE hm
 refine s_reg [] [0, 1, 20] [(0, [], .slice g_l_.a l_.length g_l_.c), (1, [], .int .u8 origin), (20, [], .bool x11)] [] H7 (by subst hx11; kernel_rfl) trivial fun _ wd12 H13 hb => ?_
 clear H7
 replace hS := hS.below hb
 clear hb
 refine w_if H13 rfl (fun hc => ?c76) (fun hc => ?_)
 case c76 =>
  replace hm := bT hc hm
  refine s_reg [] [4, 5] [(4, [], .slice none 0 0), (5, [], .int .i64 2)] [] H13 (by kernel_rfl) trivial fun _ wd14 H15 hb => ?_
  clear H13
  replace hS := hS.below hb
  clear hb
  replace hS : SH M X w [gE0] _ := hS.sel [1] rfl
  refine w_ret ?_
  obtain rfl := someE hm
  replace hS : SH M X w [Ent.own 31 tyDeclared ([] : List TDeclared) (.nil), gE0] _ := hS.addNil 31 tyDeclared
  exact retR2 H15 rfl rfl rfl ⟨_, rfl, Gh.nil, rfl, (hS.sel [0] rfl)⟩
 replace hm := bF hc hm
 refine w_skip ?_
 refine s_reg [] [0, 1, 7] [(0, [], .slice g_l_.a l_.length g_l_.c), (1, [], .int .u8 origin), (7, [], .slice none 0 0)] [] H13 (by kernel_rfl) trivial fun _ wd17 H18 hb => ?_
 clear H13
 replace hS := hS.below hb
 clear hb
 obtain ⟨z19, hz, hm⟩ := bindE hm
 refine w_cut (fun a' w' => ∃ (g71 : Gh), Fr 43 [(7, [], .slice g71.a z19.length g71.c)] a' ∧ SH M X w [Ent.own 31 tyDeclared z19 g71, Ent.im tyDeclared l_ g_l_, gE0] w') ?_ ?_
 ·replace hm := hz
  refine s_reg [] [1, 7, 21, 22, 23] [(1, [], .int .u8 origin), (7, [], .slice none 0 0), (21, [], .slice g_l_.a l_.length g_l_.c), (22, [], .int .i64 (ln l_)), (23, [], .int .i64 0)] [] H18 (by kernel_rfl) trivial fun _ wd20 H21 hb => ?_
  clear H18
  replace hS := hS.below hb
  clear hb
  refine w_block ?_
  replace hS : SH M X w [Ent.own 31 tyDeclared ([] : List TDeclared) (.nil), Ent.im tyDeclared l_ g_l_, gE0] _ := hS.addNil 31 tyDeclared
  refine w_loop (fun kk a' w' => ∃ (v23 : List TDeclared) (v25 : Int) (g24 : Gh), wide_Lesser_L1 m l_ origin kk v23 v25 = some _ ∧ Fr 43 [(1, [], .int .u8 origin), (21, [], .slice g_l_.a l_.length g_l_.c), (22, [], .int .i64 (ln l_)), (7, [], .slice g24.a v23.length g24.c), (23, [], .int .i64 v25)] a' ∧ SH M X w [Ent.own 31 tyDeclared v23 g24, Ent.im tyDeclared l_ g_l_, gE0] w') ⟨_, ([] : List TDeclared), 0, Gh.nil, hm, FrG.keep (ks := [1, 21, 22, 7, 23]) H21 (by kernel_rfl), hS⟩ ?_
  clear hm H21 hS
  rintro kk _ wd70 ⟨v23, v25, g24, hm, H, hS⟩
  cases kk with
  | zero => exact noneE hm
  | succ kk =>
   rw [wide_Lesser_L1] at hm
   refine s_reg [] [1, 7, 21, 22, 23, 24] [(1, [], .int .u8 origin), (7, [], .slice g24.a v23.length g24.c), (21, [], .slice g_l_.a l_.length g_l_.c), (22, [], .int .i64 (ln l_)), (23, [], .int .i64 v25), (24, [], .bool (decide (v25 < (ln l_))))] [] H (by kernel_rfl) trivial fun _ wd26 H27 hb => ?_
   clear H
   replace hS := hS.below hb
   clear hb
   refine w_seq ?_
   refine w_if H27 rfl (fun hc => ?_) (fun hc => ?c69)
   case c69 =>
    replace hm := bF hc hm
    refine w_exit rfl ?_
    obtain rfl := someE hm
    exact ⟨g24, FrG.keep (ks := [7]) H27 (by kernel_rfl), hS⟩
   replace hm := bT hc hm
   refine w_skip ?_
   obtain ⟨z28, hz, hm⟩ := bindE hm
   refine w_cut (fun a' w' => ∃ (g65 : Gh), Fr 43 [(1, [], .int .u8 origin), (21, [], .slice g_l_.a l_.length g_l_.c), (22, [], .int .i64 (ln l_)), (23, [], .int .i64 v25), (7, [], .slice g65.a z28.length g65.c)] a' ∧ SH M X w [Ent.own 31 tyDeclared z28 g65, Ent.im tyDeclared l_ g_l_, gE0] w') ?_ ?_
   ·replace hm := hz
    refine w_block ?_
    refine w_seq ?_
    refine wl_start ?_
    obtain ⟨ho29, hm⟩ := chkE hm
    refine wl_batch 0 2 [(.agg ⟨[.string ⟨⟨(gi l_ v25).Long.Name⟩⟩, .slice (g_l_.s (v25).toNat 0).a (((gi l_ v25).Long.Value).length) (g_l_.s (v25).toNat 0).c, .string ⟨⟨(gi l_ v25).Long.Whole⟩⟩, .bool ((gi l_ v25).Important), .int .u8 ((gi l_ v25).Origin), .bool ((gi l_ v25).Attached), .int .i64 ((gi l_ v25).Layer), .int .i64 ((gi l_ v25).Weight.e0), .int .i64 ((gi l_ v25).Weight.e1), .int .i64 ((gi l_ v25).Weight.e2), .int .i64 ((gi l_ v25).Order)]⟩)] [1, 7, 21, 22, 23, 26] [(1, [], .int .u8 origin), (7, [], .slice g24.a v23.length g24.c), (21, [], .slice g_l_.a l_.length g_l_.c), (22, [], .int .i64 (ln l_)), (23, [], .int .i64 v25), (26, [], .agg ⟨[.string ⟨⟨(gi l_ v25).Long.Name⟩⟩, .slice (g_l_.s (v25).toNat 0).a (((gi l_ v25).Long.Value).length) (g_l_.s (v25).toNat 0).c, .string ⟨⟨(gi l_ v25).Long.Whole⟩⟩, .bool ((gi l_ v25).Important), .int .u8 ((gi l_ v25).Origin), .bool ((gi l_ v25).Attached), .int .i64 ((gi l_ v25).Layer), .int .i64 ((gi l_ v25).Weight.e0), .int .i64 ((gi l_ v25).Weight.e1), .int .i64 ((gi l_ v25).Weight.e2), .int .i64 ((gi l_ v25).Order)]⟩)] [fun _ => oka g_l_.a ∧ 0 ≤ v25 ∧ v25 < ln l_, fun wz => V.atN (ab g_l_.a) (ao g_l_.a + (v25).toNat * 11) [.string ⟨⟨(gi l_ v25).Long.Name⟩⟩, .slice (g_l_.s (v25).toNat 0).a (((gi l_ v25).Long.Value).length) (g_l_.s (v25).toNat 0).c, .string ⟨⟨(gi l_ v25).Long.Whole⟩⟩, .bool ((gi l_ v25).Important), .int .u8 ((gi l_ v25).Origin), .bool ((gi l_ v25).Attached), .int .i64 ((gi l_ v25).Layer), .int .i64 ((gi l_ v25).Weight.e0), .int .i64 ((gi l_ v25).Weight.e1), .int .i64 ((gi l_ v25).Weight.e2), .int .i64 ((gi l_ v25).Order)] 0 wz] H27 (by decide) (by kernel_rfl) ⟨((hS.im 1 rfl).oki ho29), ((hS.im 1 rfl).atA ho29 0 rfl), trivial⟩ fun _ wd30 H31 hb => ?_
    clear H27
    replace hS := hS.below hb
    clear hb
    have hd := hS.hand [] [0, 1, 2] rfl rfl
    refine m_stp [9, 1, 7, 21, 22, 23, 26] [(1, [], .int .u8 origin), (7, [], .slice g24.a v23.length g24.c), (21, [], .slice g_l_.a l_.length g_l_.c), (22, [], .int .i64 (ln l_)), (23, [], .int .i64 v25), (26, [], .agg ⟨[.string ⟨⟨(gi l_ v25).Long.Name⟩⟩, .slice (g_l_.s (v25).toNat 0).a (((gi l_ v25).Long.Value).length) (g_l_.s (v25).toNat 0).c, .string ⟨⟨(gi l_ v25).Long.Whole⟩⟩, .bool ((gi l_ v25).Important), .int .u8 ((gi l_ v25).Origin), .bool ((gi l_ v25).Attached), .int .i64 ((gi l_ v25).Layer), .int .i64 ((gi l_ v25).Weight.e0), .int .i64 ((gi l_ v25).Weight.e1), .int .i64 ((gi l_ v25).Weight.e2), .int .i64 ((gi l_ v25).Order)]⟩)] H31 rfl rfl rfl rfl (o_alloc [.string ⟨⟨[]⟩⟩, .slice none 0 0, .string ⟨⟨[]⟩⟩, .bool false, .int .u8 0, .bool false, .int .i64 0, .int .i64 0, .int .i64 0, .int .i64 0, .int .i64 0] (z := .agg ⟨[.string ⟨⟨[]⟩⟩, .slice none 0 0, .string ⟨⟨[]⟩⟩, .bool false, .int .u8 0, .bool false, .int .i64 0, .int .i64 0, .int .i64 0, .int .i64 0, .int .i64 0]⟩) hd (by kernel_rfl) rfl) (fun _ => rfl) fun _ wd33 v H34 hq => ?_
    clear H31 hd
    obtain ⟨b32, rfl, hq⟩ := hq
    replace hS : SH M X w [Ent.blk b32 [.string ⟨⟨[]⟩⟩, .slice none 0 0, .string ⟨⟨[]⟩⟩, .bool false, .int .u8 0, .bool false, .int .i64 0, .int .i64 0, .int .i64 0, .int .i64 0, .int .i64 0], Ent.own 31 tyDeclared v23 g24, Ent.im tyDeclared l_ g_l_, gE0] _ := hS.join [] [0, 1, 2] rfl rfl hq
    clear hq
    have hd := hS.hand [0] [1, 2, 3] rfl rfl
    refine m_stp0 [1, 7, 9, 21, 22, 23] [(1, [], .int .u8 origin), (7, [], .slice g24.a v23.length g24.c), (9, [], .pointer (some ⟨b32, 0, none⟩)), (21, [], .slice g_l_.a l_.length g_l_.c), (22, [], .int .i64 (ln l_)), (23, [], .int .i64 v25)] H34 rfl rfl rfl (o_store [.string ⟨⟨(gi l_ v25).Long.Name⟩⟩, .slice (g_l_.s (v25).toNat 0).a (((gi l_ v25).Long.Value).length) (g_l_.s (v25).toNat 0).c, .string ⟨⟨(gi l_ v25).Long.Whole⟩⟩, .bool ((gi l_ v25).Important), .int .u8 ((gi l_ v25).Origin), .bool ((gi l_ v25).Attached), .int .i64 ((gi l_ v25).Layer), .int .i64 ((gi l_ v25).Weight.e0), .int .i64 ((gi l_ v25).Weight.e1), .int .i64 ((gi l_ v25).Weight.e2), .int .i64 ((gi l_ v25).Order)] H34 hd rfl rfl (by kernel_rfl) rfl rfl rfl) rfl fun _ wd35 H36 hq => ?_
    clear H34 hd
    obtain ⟨_, hq⟩ := hq
    replace hS : SH M X w [Ent.blk b32 [.string ⟨⟨(gi l_ v25).Long.Name⟩⟩, .slice (g_l_.s (v25).toNat 0).a (((gi l_ v25).Long.Value).length) (g_l_.s (v25).toNat 0).c, .string ⟨⟨(gi l_ v25).Long.Whole⟩⟩, .bool ((gi l_ v25).Important), .int .u8 ((gi l_ v25).Origin), .bool ((gi l_ v25).Attached), .int .i64 ((gi l_ v25).Layer), .int .i64 ((gi l_ v25).Weight.e0), .int .i64 ((gi l_ v25).Weight.e1), .int .i64 ((gi l_ v25).Weight.e2), .int .i64 ((gi l_ v25).Order)], Ent.own 31 tyDeclared v23 g24, Ent.im tyDeclared l_ g_l_, gE0] _ := hS.join [0] [1, 2, 3] rfl rfl hq
    clear hq
    refine wl_end rfl ?_
    refine s_reg [(.int .u8 ((gi l_ v25).Origin))] [1, 7, 9, 21, 22, 23, 30] [(1, [], .int .u8 origin), (7, [], .slice g24.a v23.length g24.c), (9, [], .pointer (some ⟨b32, 0, none⟩)), (21, [], .slice g_l_.a l_.length g_l_.c), (22, [], .int .i64 (ln l_)), (23, [], .int .i64 v25), (30, [], .bool (decide (((gi l_ v25).Origin) < origin)))] [fun wz => V.at1 ⟨b32, 4, none⟩ (.int .u8 ((gi l_ v25).Origin)) wz] H36 (by kernel_rfl) ⟨((hS.bk 0 rfl).at1 rfl), trivial⟩ fun _ wd37 H38 hb => ?_
    clear H36
    replace hS := hS.below hb
    clear hb
    refine w_if H38 rfl (fun hc => ?_) (fun hc => ?c64)
    case c64 =>
     replace hm := bF hc hm
     refine w_skip ?_
     obtain rfl := someE hm
     replace hS : SH M X w [Ent.own 31 tyDeclared v23 g24, Ent.im tyDeclared l_ g_l_, gE0] _ := hS.sel [1, 2, 3] rfl
     exact ⟨g24, FrG.keep (ks := [1, 21, 22, 23, 7]) H38 (by kernel_rfl), hS⟩
    replace hm := bT hc hm
    refine w_seq ?_
    refine wl_start ?_
    refine wl_batch 0 3 [(.slice (g_l_.s (v25).toNat 0).a (((gi l_ v25).Long.Value).length) (g_l_.s (v25).toNat 0).c)] [1, 7, 9, 21, 22, 23, 33] [(1, [], .int .u8 origin), (7, [], .slice g24.a v23.length g24.c), (9, [], .pointer (some ⟨b32, 0, none⟩)), (21, [], .slice g_l_.a l_.length g_l_.c), (22, [], .int .i64 (ln l_)), (23, [], .int .i64 v25), (33, [], .slice (g_l_.s (v25).toNat 0).a (((gi l_ v25).Long.Value).length) (g_l_.s (v25).toNat 0).c)] [fun wz => V.at1 ⟨b32, 1, none⟩ (.slice (g_l_.s (v25).toNat 0).a (((gi l_ v25).Long.Value).length) (g_l_.s (v25).toNat 0).c) wz] H38 (by decide) (by kernel_rfl) ⟨((hS.bk 0 rfl).at1 rfl), trivial⟩ fun _ wd39 H40 hb => ?_
    clear H38
    replace hS := hS.below hb
    clear hb
    replace hS : SH M X w [Ent.im tyValue ((gi l_ v25).Long.Value) (g_l_.s (v25).toNat 0), Ent.blk b32 [.string ⟨⟨(gi l_ v25).Long.Name⟩⟩, .slice (g_l_.s (v25).toNat 0).a (((gi l_ v25).Long.Value).length) (g_l_.s (v25).toNat 0).c, .string ⟨⟨(gi l_ v25).Long.Whole⟩⟩, .bool ((gi l_ v25).Important), .int .u8 ((gi l_ v25).Origin), .bool ((gi l_ v25).Attached), .int .i64 ((gi l_ v25).Layer), .int .i64 ((gi l_ v25).Weight.e0), .int .i64 ((gi l_ v25).Weight.e1), .int .i64 ((gi l_ v25).Weight.e2), .int .i64 ((gi l_ v25).Order)], Ent.own 31 tyDeclared v23 g24, Ent.im tyDeclared l_ g_l_, gE0] _ := hS.addIm (tyDeclared_i0 ((hS.im 2 rfl).el ho29))
    obtain ⟨y42, hy42, hm⟩ := bindE hm
    have hd := hS.hand [0] [0, 1, 2, 3, 4] rfl rfl
    refine m_stp [34, 1, 7, 9, 21, 22, 23] [(1, [], .int .u8 origin), (7, [], .slice g24.a v23.length g24.c), (9, [], .pointer (some ⟨b32, 0, none⟩)), (21, [], .slice g_l_.a l_.length g_l_.c), (22, [], .int .i64 (ln l_)), (23, [], .int .i64 v25)] H40 rfl rfl rfl rfl (o_callx H40 rfl rfl (wide_clone_ok (g_l_ := (g_l_.s (v25).toNat 0)) m _ _ hy42 _ _ hd)) (fun _ => rfl) fun _ wd45 v H46 hq => ?_
    clear H40 hd
    obtain ⟨g43, rfl, hq⟩ := hq
    replace hS : SH M X w [Ent.own 80 tyValue y42 g43, Ent.im tyValue ((gi l_ v25).Long.Value) (g_l_.s (v25).toNat 0), Ent.blk b32 [.string ⟨⟨(gi l_ v25).Long.Name⟩⟩, .slice (g_l_.s (v25).toNat 0).a (((gi l_ v25).Long.Value).length) (g_l_.s (v25).toNat 0).c, .string ⟨⟨(gi l_ v25).Long.Whole⟩⟩, .bool ((gi l_ v25).Important), .int .u8 ((gi l_ v25).Origin), .bool ((gi l_ v25).Attached), .int .i64 ((gi l_ v25).Layer), .int .i64 ((gi l_ v25).Weight.e0), .int .i64 ((gi l_ v25).Weight.e1), .int .i64 ((gi l_ v25).Weight.e2), .int .i64 ((gi l_ v25).Order)], Ent.own 31 tyDeclared v23 g24, Ent.im tyDeclared l_ g_l_, gE0] _ := hS.join [0] [0, 1, 2, 3, 4] rfl rfl hq
    clear hq
    refine wl_batch 4 6 [] [1, 7, 9, 21, 22, 23, 34, 36] [(1, [], .int .u8 origin), (7, [], .slice g24.a v23.length g24.c), (9, [], .pointer (some ⟨b32, 0, none⟩)), (21, [], .slice g_l_.a l_.length g_l_.c), (22, [], .int .i64 (ln l_)), (23, [], .int .i64 v25), (34, [], .slice g43.a y42.length g43.c), (36, [], .pointer (some ⟨b32, 1, none⟩))] [] H46 (by decide) (by kernel_rfl) trivial fun _ wd47 H48 hb => ?_
    clear H46
    replace hS := hS.below hb
    clear hb
    have hd := hS.hand [2] [0, 1, 3, 4, 5] rfl rfl
    refine m_stp0 [1, 7, 9, 21, 22, 23] [(1, [], .int .u8 origin), (7, [], .slice g24.a v23.length g24.c), (9, [], .pointer (some ⟨b32, 0, none⟩)), (21, [], .slice g_l_.a l_.length g_l_.c), (22, [], .int .i64 (ln l_)), (23, [], .int .i64 v25)] H48 rfl rfl rfl (o_store [.string ⟨⟨(gi l_ v25).Long.Name⟩⟩, .slice g43.a y42.length g43.c, .string ⟨⟨(gi l_ v25).Long.Whole⟩⟩, .bool ((gi l_ v25).Important), .int .u8 ((gi l_ v25).Origin), .bool ((gi l_ v25).Attached), .int .i64 ((gi l_ v25).Layer), .int .i64 ((gi l_ v25).Weight.e0), .int .i64 ((gi l_ v25).Weight.e1), .int .i64 ((gi l_ v25).Weight.e2), .int .i64 ((gi l_ v25).Order)] H48 hd rfl rfl (by kernel_rfl) rfl rfl rfl) rfl fun _ wd49 H50 hq => ?_
    clear H48 hd
    obtain ⟨_, hq⟩ := hq
    replace hS : SH M X w [Ent.blk b32 [.string ⟨⟨(gi l_ v25).Long.Name⟩⟩, .slice g43.a y42.length g43.c, .string ⟨⟨(gi l_ v25).Long.Whole⟩⟩, .bool ((gi l_ v25).Important), .int .u8 ((gi l_ v25).Origin), .bool ((gi l_ v25).Attached), .int .i64 ((gi l_ v25).Layer), .int .i64 ((gi l_ v25).Weight.e0), .int .i64 ((gi l_ v25).Weight.e1), .int .i64 ((gi l_ v25).Weight.e2), .int .i64 ((gi l_ v25).Order)], Ent.own 80 tyValue y42 g43, Ent.im tyValue ((gi l_ v25).Long.Value) (g_l_.s (v25).toNat 0), Ent.own 31 tyDeclared v23 g24, Ent.im tyDeclared l_ g_l_, gE0] _ := hS.join [2] [0, 1, 3, 4, 5] rfl rfl hq
    clear hq
    refine wl_end rfl ?_
    replace hS : SH M X w [Ent.blk b32 [.string ⟨⟨(gi l_ v25).Long.Name⟩⟩, .slice g43.a y42.length g43.c, .string ⟨⟨(gi l_ v25).Long.Whole⟩⟩, .bool ((gi l_ v25).Important), .int .u8 ((gi l_ v25).Origin), .bool ((gi l_ v25).Attached), .int .i64 ((gi l_ v25).Layer), .int .i64 ((gi l_ v25).Weight.e0), .int .i64 ((gi l_ v25).Weight.e1), .int .i64 ((gi l_ v25).Weight.e2), .int .i64 ((gi l_ v25).Order)], Ent.own 80 tyValue y42 g43, Ent.own 31 tyDeclared v23 g24, Ent.im tyDeclared l_ g_l_, gE0] _ := hS.sel [0, 1, 3, 4, 5] rfl
    refine wl_start ?_
    refine wl_batch 0 2 [(.agg ⟨[.string ⟨⟨(gi l_ v25).Long.Name⟩⟩, .slice g43.a y42.length g43.c, .string ⟨⟨(gi l_ v25).Long.Whole⟩⟩, .bool ((gi l_ v25).Important), .int .u8 ((gi l_ v25).Origin), .bool ((gi l_ v25).Attached), .int .i64 ((gi l_ v25).Layer), .int .i64 ((gi l_ v25).Weight.e0), .int .i64 ((gi l_ v25).Weight.e1), .int .i64 ((gi l_ v25).Weight.e2), .int .i64 ((gi l_ v25).Order)]⟩)] [1, 21, 22, 23, 37, 38] [(1, [], .int .u8 origin), (21, [], .slice g_l_.a l_.length g_l_.c), (22, [], .int .i64 (ln l_)), (23, [], .int .i64 v25), (37, [], .slice g24.a v23.length g24.c), (38, [], .agg ⟨[.string ⟨⟨(gi l_ v25).Long.Name⟩⟩, .slice g43.a y42.length g43.c, .string ⟨⟨(gi l_ v25).Long.Whole⟩⟩, .bool ((gi l_ v25).Important), .int .u8 ((gi l_ v25).Origin), .bool ((gi l_ v25).Attached), .int .i64 ((gi l_ v25).Layer), .int .i64 ((gi l_ v25).Weight.e0), .int .i64 ((gi l_ v25).Weight.e1), .int .i64 ((gi l_ v25).Weight.e2), .int .i64 ((gi l_ v25).Order)]⟩)] [fun wz => V.atN b32 0 [.string ⟨⟨(gi l_ v25).Long.Name⟩⟩, .slice g43.a y42.length g43.c, .string ⟨⟨(gi l_ v25).Long.Whole⟩⟩, .bool ((gi l_ v25).Important), .int .u8 ((gi l_ v25).Origin), .bool ((gi l_ v25).Attached), .int .i64 ((gi l_ v25).Layer), .int .i64 ((gi l_ v25).Weight.e0), .int .i64 ((gi l_ v25).Weight.e1), .int .i64 ((gi l_ v25).Weight.e2), .int .i64 ((gi l_ v25).Order)] 0 wz] H50 (by decide) (by kernel_rfl) ⟨((hS.bk 0 rfl).atD rfl), trivial⟩ fun _ wd51 H52 hb => ?_
    clear H50
    replace hS := hS.below hb
    clear hb
    replace hS : SH M X w [Ent.im tyValue y42 g43, Ent.blk b32 [.string ⟨⟨(gi l_ v25).Long.Name⟩⟩, .slice g43.a y42.length g43.c, .string ⟨⟨(gi l_ v25).Long.Whole⟩⟩, .bool ((gi l_ v25).Important), .int .u8 ((gi l_ v25).Origin), .bool ((gi l_ v25).Attached), .int .i64 ((gi l_ v25).Layer), .int .i64 ((gi l_ v25).Weight.e0), .int .i64 ((gi l_ v25).Weight.e1), .int .i64 ((gi l_ v25).Weight.e2), .int .i64 ((gi l_ v25).Order)], Ent.own 31 tyDeclared v23 g24, Ent.im tyDeclared l_ g_l_, gE0] _ := SH.frz1 (hS.sel [1, 0, 2, 3, 4] rfl)
    have hd := hS.hand [0] [0, 1, 2, 3, 4] rfl rfl
    refine m_stp [39, 1, 21, 22, 23, 37] [(1, [], .int .u8 origin), (21, [], .slice g_l_.a l_.length g_l_.c), (22, [], .int .i64 (ln l_)), (23, [], .int .i64 v25), (37, [], .slice g24.a v23.length g24.c)] H52 rfl rfl rfl rfl (o_lit (T := tyDeclared) (E := 31) (zv := .agg ⟨[.string ⟨⟨[]⟩⟩, .slice none 0 0, .string ⟨⟨[]⟩⟩, .bool false, .int .u8 0, .bool false, .int .i64 0, .int .i64 0, .int .i64 0, .int .i64 0, .int .i64 0]⟩) [.string ⟨⟨(gi l_ v25).Long.Name⟩⟩, .slice g43.a y42.length g43.c, .string ⟨⟨(gi l_ v25).Long.Whole⟩⟩, .bool ((gi l_ v25).Important), .int .u8 ((gi l_ v25).Origin), .bool ((gi l_ v25).Attached), .int .i64 ((gi l_ v25).Layer), .int .i64 ((gi l_ v25).Weight.e0), .int .i64 ((gi l_ v25).Weight.e1), .int .i64 ((gi l_ v25).Weight.e2), .int .i64 ((gi l_ v25).Order)] ([(TDeclared.mk (TLong.mk ((gi l_ v25).Long.Name) y42 ((gi l_ v25).Long.Whole)) ((gi l_ v25).Important) ((gi l_ v25).Origin) ((gi l_ v25).Attached) ((gi l_ v25).Layer) ((gi l_ v25).Weight) ((gi l_ v25).Order))] : List TDeclared) [gL [g43]] _ H52 hd rfl (by kernel_rfl) (by kernel_rfl) (by kernel_rfl) (by kernel_rfl) (by kernel_rfl) (by kernel_rfl) (by kernel_rfl) rfl (InnL.cons (tyDeclared_mk (hd.im 0 rfl)) InnL.nil)) (fun _ => rfl) fun _ wd55 v H56 hq => ?_
    clear H52 hd
    obtain ⟨g53, rfl, hq⟩ := hq
    replace hS : SH M X w [Ent.own 31 tyDeclared ([(TDeclared.mk (TLong.mk ((gi l_ v25).Long.Name) y42 ((gi l_ v25).Long.Whole)) ((gi l_ v25).Important) ((gi l_ v25).Origin) ((gi l_ v25).Attached) ((gi l_ v25).Layer) ((gi l_ v25).Weight) ((gi l_ v25).Order))] : List TDeclared) g53, Ent.im tyValue y42 g43, Ent.blk b32 [.string ⟨⟨(gi l_ v25).Long.Name⟩⟩, .slice g43.a y42.length g43.c, .string ⟨⟨(gi l_ v25).Long.Whole⟩⟩, .bool ((gi l_ v25).Important), .int .u8 ((gi l_ v25).Origin), .bool ((gi l_ v25).Attached), .int .i64 ((gi l_ v25).Layer), .int .i64 ((gi l_ v25).Weight.e0), .int .i64 ((gi l_ v25).Weight.e1), .int .i64 ((gi l_ v25).Weight.e2), .int .i64 ((gi l_ v25).Order)], Ent.own 31 tyDeclared v23 g24, Ent.im tyDeclared l_ g_l_, gE0] _ := hS.join [0] [0, 1, 2, 3, 4] rfl rfl hq
    clear hq
    obtain ⟨ho57, hm⟩ := chkE hm
    obtain ⟨q58, hq58, hm⟩ := letE hm
    have hd := hS.hand [3, 0] [1, 2, 4, 5] rfl rfl
    refine m_stp [40, 1, 21, 22, 23] [(1, [], .int .u8 origin), (21, [], .slice g_l_.a l_.length g_l_.c), (22, [], .int .i64 (ln l_)), (23, [], .int .i64 v25)] H56 rfl rfl rfl rfl (o_app2 (T := tyDeclared) (zv := .agg ⟨[.string ⟨⟨[]⟩⟩, .slice none 0 0, .string ⟨⟨[]⟩⟩, .bool false, .int .u8 0, .bool false, .int .i64 0, .int .i64 0, .int .i64 0, .int .i64 0, .int .i64 0]⟩) (g1 := g24) (g2 := g53) (l1 := v23) (l2 := ([(TDeclared.mk (TLong.mk ((gi l_ v25).Long.Name) y42 ((gi l_ v25).Long.Whole)) ((gi l_ v25).Important) ((gi l_ v25).Origin) ((gi l_ v25).Attached) ((gi l_ v25).Layer) ((gi l_ v25).Weight) ((gi l_ v25).Order))] : List TDeclared)) q58 hq58.symm H56 hd rfl rfl rfl rfl rfl rfl rfl (by kernel_rfl) (by kernel_rfl) rfl rfl ho57) (fun _ => rfl) fun _ wd59 v H60 hq => ?_
    clear H56 hd
    obtain ⟨g61, rfl, hq⟩ := hq
    replace hS : SH M X w [Ent.own 31 tyDeclared q58 g61, Ent.own 31 tyDeclared ([(TDeclared.mk (TLong.mk ((gi l_ v25).Long.Name) y42 ((gi l_ v25).Long.Whole)) ((gi l_ v25).Important) ((gi l_ v25).Origin) ((gi l_ v25).Attached) ((gi l_ v25).Layer) ((gi l_ v25).Weight) ((gi l_ v25).Order))] : List TDeclared) g53, Ent.im tyValue y42 g43, Ent.blk b32 [.string ⟨⟨(gi l_ v25).Long.Name⟩⟩, .slice g43.a y42.length g43.c, .string ⟨⟨(gi l_ v25).Long.Whole⟩⟩, .bool ((gi l_ v25).Important), .int .u8 ((gi l_ v25).Origin), .bool ((gi l_ v25).Attached), .int .i64 ((gi l_ v25).Layer), .int .i64 ((gi l_ v25).Weight.e0), .int .i64 ((gi l_ v25).Weight.e1), .int .i64 ((gi l_ v25).Weight.e2), .int .i64 ((gi l_ v25).Order)], Ent.im tyDeclared l_ g_l_, gE0] _ := hS.join [3, 0] [1, 2, 4, 5] rfl rfl hq
    clear hq
    refine wl_batch 4 5 [] [1, 7, 21, 22, 23] [(1, [], .int .u8 origin), (7, [], .slice g61.a q58.length g61.c), (21, [], .slice g_l_.a l_.length g_l_.c), (22, [], .int .i64 (ln l_)), (23, [], .int .i64 v25)] [] H60 (by decide) (by kernel_rfl) trivial fun _ wd62 H63 hb => ?_
    clear H60
    replace hS := hS.below hb
    clear hb
    refine wl_end rfl ?_
    replace hS : SH M X w [Ent.own 31 tyDeclared q58 g61, Ent.im tyDeclared l_ g_l_, gE0] _ := hS.sel [0, 4, 5] rfl
    obtain rfl := someE hm
    exact ⟨g61, FrG.keep (ks := [1, 21, 22, 23, 7]) H63 (by kernel_rfl), hS⟩
   ·rintro _ wd68 ⟨g65, H, hS⟩
    refine w_reg [] [1, 7, 21, 22, 23] [(1, [], .int .u8 origin), (7, [], .slice g65.a z28.length g65.c), (21, [], .slice g_l_.a l_.length g_l_.c), (22, [], .int .i64 (ln l_)), (23, [], .int .i64 (w64 (v25 + 1)))] [] H (by kernel_rfl) trivial fun _ wd66 H67 hb => ?_
    clear H
    replace hS := hS.below hb
    clear hb
    exact ⟨_, Nat.lt_succ_self _, z28, w64 (v25 + 1), g65, hm, FrG.keep (ks := [1, 21, 22, 7, 23]) H67 (by kernel_rfl), hS⟩
 ·rintro _ wd75 ⟨g71, H, hS⟩
  replace hS : SH M X w [Ent.own 31 tyDeclared z19 g71, gE0] _ := hS.sel [0, 2] rfl
  refine s_reg [] [4, 5] [(4, [], .slice g71.a z19.length g71.c), (5, [], .int .i64 0)] [] H (by kernel_rfl) trivial fun _ wd73 H74 hb => ?_
  clear H
  replace hS := hS.below hb
  clear hb
  refine w_ret ?_
  obtain rfl := someE hm
  exact retR2 H74 rfl rfl rfl ⟨_, rfl, g71, rfl, (hS.sel [0] rfl)⟩
theorem wide_Lesser_ok {g_l_ : Gh} (m : Nat) (l_ : List TDeclared) (origin : Int) (r : (List TDeclared) × Int) (hm : wide_Lesser m l_ origin = some r) (M : Av) (w : World) (hS : S0 M [Ent.im tyDeclared l_ g_l_, gE0] w) : DoesX Tryd.prog 9 ⟨[.slice g_l_.a l_.length g_l_.c, .int .u8 origin]⟩ w (fun v w' => ∃ (g901 : Gh), v = .tuple ⟨[.slice g901.a r.1.length g901.c, .int .i64 r.2]⟩ ∧ SH M (fpl [Ent.im tyDeclared l_ g_l_, gE0]) w [Ent.own 31 tyDeclared r.1 g901] w') := ⟨Tryd.call9 _, wide_Lesser_w M m   l_ origin r hm w hS⟩

def law31_alive (m : Nat)  : Option (Bool) :=
  Option.bind (law31_of m 1 [99, 111, 108, 111, 114] [114, 101, 100]) fun y3 =>
  Option.bind (law31_of m 2 [99, 111, 108, 111, 114] [114, 101, 118, 101, 114, 116]) fun y8 =>
  Option.bind (law31_of m 3 [99, 111, 108, 111, 114] [114, 101, 118, 101, 114, 116]) fun y13 =>
  Option.bind (law31_of m 1 [99, 111, 108, 111, 114] [117, 110, 115, 101, 116]) fun y24 =>
  Option.bind (law31_of m 2 [99, 111, 108, 111, 114] [114, 101, 118, 101, 114, 116]) fun y29 =>
  Option.bind (law31_of m 3 [99, 111, 108, 111, 114] [114, 101, 118, 101, 114, 116]) fun y34 =>
  Option.bind (law31_says m ([y3, y8, y13] : List TDeclared) [99, 111, 108, 111, 114] 0 []) fun y45 =>
  Option.bind (cond y45 (law31_says m ([y24, y29, y34] : List TDeclared) [99, 111, 108, 111, 114] (-1) [105, 110, 104, 101, 114, 105, 116]) (some default)) fun y46 =>
  Option.bind (cond (cond y45 y46 false) (law31_says m ([y3, y8, y13] : List TDeclared) [119, 105, 100, 116, 104] (-1) [105, 110, 105, 116, 105, 97, 108]) (some default)) fun y47 =>
  some (cond (cond y45 y46 false) y47 false)
theorem law31_alive_w  (M : Av) (m : Nat)  (r : Bool) (hm : law31_alive m = some r) (w : World) (hS : S0 M [gE0] w) : Calls Tryd.prog 10 ⟨[]⟩ w (fun e w' => ∃ v, e = .returned v ∧ v = .bool r ∧ SH M (fpl [gE0]) w [] w') := by
 rw [law31_alive] at hm
 have hS0 : SH M (fpl [gE0]) w [gE0] w := hS
 generalize hX : fpl [gE0] = X at hS0 ⊢
 clear hS hX
 have hS := hS0
 clear hS0
 refine calls_entryP Tryd.func10 rfl Tryd.ntmps10 rfl fun _ H => ?_
 refine s_reg [] [] [] [] H (by kernel_rfl) trivial fun _ wd1 H2 hb => ?_
 clear H
 replace hS := hS.below hb
 clear hb
 refine w_seq ?_
 refine wl_start ?_
 obtain ⟨y3, hy3, hm⟩ := bindE hm
 have hd := hS.hand [] [0] rfl rfl
 refine m_stp [3] [] H2 rfl rfl rfl rfl (o_callx H2 rfl rfl (law31_of_ok m _ _ _ _ hy3 _ _ hd)) (fun _ => rfl) fun _ wd6 v H7 hq => ?_
 clear H2 hd
 obtain ⟨g4, rfl, hq⟩ := hq
 replace hS : SH M X w [Ent.im tyValue y3.Long.Value g4, gE0] _ := hS.join [] [0] rfl rfl hq
 clear hq
 obtain ⟨y8, hy8, hm⟩ := bindE hm
 have hd := hS.hand [] [0, 1] rfl rfl
 refine m_stp [4, 3] [(3, [], .agg ⟨[.string ⟨⟨y3.Long.Name⟩⟩, .slice g4.a y3.Long.Value.length g4.c, .string ⟨⟨y3.Long.Whole⟩⟩, .bool y3.Important, .int .u8 y3.Origin, .bool y3.Attached, .int .i64 y3.Layer, .int .i64 y3.Weight.e0, .int .i64 y3.Weight.e1, .int .i64 y3.Weight.e2, .int .i64 y3.Order]⟩)] H7 rfl rfl rfl rfl (o_callx H7 rfl rfl (law31_of_ok m _ _ _ _ hy8 _ _ hd)) (fun _ => rfl) fun _ wd11 v H12 hq => ?_
 clear H7 hd
 obtain ⟨g9, rfl, hq⟩ := hq
 replace hS : SH M X w [Ent.im tyValue y8.Long.Value g9, Ent.im tyValue y3.Long.Value g4, gE0] _ := hS.join [] [0, 1] rfl rfl hq
 clear hq
 obtain ⟨y13, hy13, hm⟩ := bindE hm
 have hd := hS.hand [] [0, 1, 2] rfl rfl
 refine m_stp [5, 3, 4] [(3, [], .agg ⟨[.string ⟨⟨y3.Long.Name⟩⟩, .slice g4.a y3.Long.Value.length g4.c, .string ⟨⟨y3.Long.Whole⟩⟩, .bool y3.Important, .int .u8 y3.Origin, .bool y3.Attached, .int .i64 y3.Layer, .int .i64 y3.Weight.e0, .int .i64 y3.Weight.e1, .int .i64 y3.Weight.e2, .int .i64 y3.Order]⟩), (4, [], .agg ⟨[.string ⟨⟨y8.Long.Name⟩⟩, .slice g9.a y8.Long.Value.length g9.c, .string ⟨⟨y8.Long.Whole⟩⟩, .bool y8.Important, .int .u8 y8.Origin, .bool y8.Attached, .int .i64 y8.Layer, .int .i64 y8.Weight.e0, .int .i64 y8.Weight.e1, .int .i64 y8.Weight.e2, .int .i64 y8.Order]⟩)] H12 rfl rfl rfl rfl (o_callx H12 rfl rfl (law31_of_ok m _ _ _ _ hy13 _ _ hd)) (fun _ => rfl) fun _ wd16 v H17 hq => ?_
 clear H12 hd
 obtain ⟨g14, rfl, hq⟩ := hq
 replace hS : SH M X w [Ent.im tyValue y13.Long.Value g14, Ent.im tyValue y8.Long.Value g9, Ent.im tyValue y3.Long.Value g4, gE0] _ := hS.join [] [0, 1, 2] rfl rfl hq
 clear hq
 have hd := hS.hand [2, 1, 0] [0, 1, 2, 3] rfl rfl
 refine m_stp [6] [] H17 rfl rfl rfl rfl (o_lit (T := tyDeclared) (E := 31) (zv := .agg ⟨[.string ⟨⟨[]⟩⟩, .slice none 0 0, .string ⟨⟨[]⟩⟩, .bool false, .int .u8 0, .bool false, .int .i64 0, .int .i64 0, .int .i64 0, .int .i64 0, .int .i64 0]⟩) [.string ⟨⟨y3.Long.Name⟩⟩, .slice g4.a y3.Long.Value.length g4.c, .string ⟨⟨y3.Long.Whole⟩⟩, .bool y3.Important, .int .u8 y3.Origin, .bool y3.Attached, .int .i64 y3.Layer, .int .i64 y3.Weight.e0, .int .i64 y3.Weight.e1, .int .i64 y3.Weight.e2, .int .i64 y3.Order, .string ⟨⟨y8.Long.Name⟩⟩, .slice g9.a y8.Long.Value.length g9.c, .string ⟨⟨y8.Long.Whole⟩⟩, .bool y8.Important, .int .u8 y8.Origin, .bool y8.Attached, .int .i64 y8.Layer, .int .i64 y8.Weight.e0, .int .i64 y8.Weight.e1, .int .i64 y8.Weight.e2, .int .i64 y8.Order, .string ⟨⟨y13.Long.Name⟩⟩, .slice g14.a y13.Long.Value.length g14.c, .string ⟨⟨y13.Long.Whole⟩⟩, .bool y13.Important, .int .u8 y13.Origin, .bool y13.Attached, .int .i64 y13.Layer, .int .i64 y13.Weight.e0, .int .i64 y13.Weight.e1, .int .i64 y13.Weight.e2, .int .i64 y13.Order] ([y3, y8, y13] : List TDeclared) [gL [g4], gL [g9], gL [g14]] _ H17 hd rfl (by kernel_rfl) (by kernel_rfl) (by kernel_rfl) (by kernel_rfl) (by kernel_rfl) (by kernel_rfl) (by kernel_rfl) rfl (InnL.cons (tyDeclared_mk (hd.im 0 rfl)) (InnL.cons (tyDeclared_mk (hd.im 1 rfl)) (InnL.cons (tyDeclared_mk (hd.im 2 rfl)) InnL.nil)))) (fun _ => rfl) fun _ wd20 v H21 hq => ?_
 clear H17 hd
 obtain ⟨g18, rfl, hq⟩ := hq
 replace hS : SH M X w [Ent.own 31 tyDeclared ([y3, y8, y13] : List TDeclared) g18, Ent.im tyValue y13.Long.Value g14, Ent.im tyValue y8.Long.Value g9, Ent.im tyValue y3.Long.Value g4, gE0] _ := hS.join [2, 1, 0] [0, 1, 2, 3] rfl rfl hq
 clear hq
 refine wl_batch 4 5 [] [1] [(1, [], .slice g18.a 3 g18.c)] [] H21 (by decide) (by kernel_rfl) trivial fun _ wd22 H23 hb => ?_
 clear H21
 replace hS := hS.below hb
 clear hb
 refine wl_end rfl ?_
 replace hS : SH M X w [Ent.own 31 tyDeclared ([y3, y8, y13] : List TDeclared) g18, gE0] _ := hS.sel [0, 4] rfl
 refine w_seq ?_
 refine wl_start ?_
 obtain ⟨y24, hy24, hm⟩ := bindE hm
 have hd := hS.hand [] [0, 1] rfl rfl
 refine m_stp [7, 1] [(1, [], .slice g18.a 3 g18.c)] H23 rfl rfl rfl rfl (o_callx H23 rfl rfl (law31_of_ok m _ _ _ _ hy24 _ _ hd)) (fun _ => rfl) fun _ wd27 v H28 hq => ?_
 clear H23 hd
 obtain ⟨g25, rfl, hq⟩ := hq
 replace hS : SH M X w [Ent.im tyValue y24.Long.Value g25, Ent.own 31 tyDeclared ([y3, y8, y13] : List TDeclared) g18, gE0] _ := hS.join [] [0, 1] rfl rfl hq
 clear hq
 obtain ⟨y29, hy29, hm⟩ := bindE hm
 have hd := hS.hand [] [0, 1, 2] rfl rfl
 refine m_stp [8, 1, 7] [(1, [], .slice g18.a 3 g18.c), (7, [], .agg ⟨[.string ⟨⟨y24.Long.Name⟩⟩, .slice g25.a y24.Long.Value.length g25.c, .string ⟨⟨y24.Long.Whole⟩⟩, .bool y24.Important, .int .u8 y24.Origin, .bool y24.Attached, .int .i64 y24.Layer, .int .i64 y24.Weight.e0, .int .i64 y24.Weight.e1, .int .i64 y24.Weight.e2, .int .i64 y24.Order]⟩)] H28 rfl rfl rfl rfl (o_callx H28 rfl rfl (law31_of_ok m _ _ _ _ hy29 _ _ hd)) (fun _ => rfl) fun _ wd32 v H33 hq => ?_
 clear H28 hd
 obtain ⟨g30, rfl, hq⟩ := hq
 replace hS : SH M X w [Ent.im tyValue y29.Long.Value g30, Ent.im tyValue y24.Long.Value g25, Ent.own 31 tyDeclared ([y3, y8, y13] : List TDeclared) g18, gE0] _ := hS.join [] [0, 1, 2] rfl rfl hq
 clear hq
 obtain ⟨y34, hy34, hm⟩ := bindE hm
 have hd := hS.hand [] [0, 1, 2, 3] rfl rfl
 refine m_stp [9, 1, 7, 8] [(1, [], .slice g18.a 3 g18.c), (7, [], .agg ⟨[.string ⟨⟨y24.Long.Name⟩⟩, .slice g25.a y24.Long.Value.length g25.c, .string ⟨⟨y24.Long.Whole⟩⟩, .bool y24.Important, .int .u8 y24.Origin, .bool y24.Attached, .int .i64 y24.Layer, .int .i64 y24.Weight.e0, .int .i64 y24.Weight.e1, .int .i64 y24.Weight.e2, .int .i64 y24.Order]⟩), (8, [], .agg ⟨[.string ⟨⟨y29.Long.Name⟩⟩, .slice g30.a y29.Long.Value.length g30.c, .string ⟨⟨y29.Long.Whole⟩⟩, .bool y29.Important, .int .u8 y29.Origin, .bool y29.Attached, .int .i64 y29.Layer, .int .i64 y29.Weight.e0, .int .i64 y29.Weight.e1, .int .i64 y29.Weight.e2, .int .i64 y29.Order]⟩)] H33 rfl rfl rfl rfl (o_callx H33 rfl rfl (law31_of_ok m _ _ _ _ hy34 _ _ hd)) (fun _ => rfl) fun _ wd37 v H38 hq => ?_
 clear H33 hd
 obtain ⟨g35, rfl, hq⟩ := hq
 replace hS : SH M X w [Ent.im tyValue y34.Long.Value g35, Ent.im tyValue y29.Long.Value g30, Ent.im tyValue y24.Long.Value g25, Ent.own 31 tyDeclared ([y3, y8, y13] : List TDeclared) g18, gE0] _ := hS.join [] [0, 1, 2, 3] rfl rfl hq
 clear hq
 have hd := hS.hand [2, 1, 0] [0, 1, 2, 3, 4] rfl rfl
 refine m_stp [10, 1] [(1, [], .slice g18.a 3 g18.c)] H38 rfl rfl rfl rfl (o_lit (T := tyDeclared) (E := 31) (zv := .agg ⟨[.string ⟨⟨[]⟩⟩, .slice none 0 0, .string ⟨⟨[]⟩⟩, .bool false, .int .u8 0, .bool false, .int .i64 0, .int .i64 0, .int .i64 0, .int .i64 0, .int .i64 0]⟩) [.string ⟨⟨y24.Long.Name⟩⟩, .slice g25.a y24.Long.Value.length g25.c, .string ⟨⟨y24.Long.Whole⟩⟩, .bool y24.Important, .int .u8 y24.Origin, .bool y24.Attached, .int .i64 y24.Layer, .int .i64 y24.Weight.e0, .int .i64 y24.Weight.e1, .int .i64 y24.Weight.e2, .int .i64 y24.Order, .string ⟨⟨y29.Long.Name⟩⟩, .slice g30.a y29.Long.Value.length g30.c, .string ⟨⟨y29.Long.Whole⟩⟩, .bool y29.Important, .int .u8 y29.Origin, .bool y29.Attached, .int .i64 y29.Layer, .int .i64 y29.Weight.e0, .int .i64 y29.Weight.e1, .int .i64 y29.Weight.e2, .int .i64 y29.Order, .string ⟨⟨y34.Long.Name⟩⟩, .slice g35.a y34.Long.Value.length g35.c, .string ⟨⟨y34.Long.Whole⟩⟩, .bool y34.Important, .int .u8 y34.Origin, .bool y34.Attached, .int .i64 y34.Layer, .int .i64 y34.Weight.e0, .int .i64 y34.Weight.e1, .int .i64 y34.Weight.e2, .int .i64 y34.Order] ([y24, y29, y34] : List TDeclared) [gL [g25], gL [g30], gL [g35]] _ H38 hd rfl (by kernel_rfl) (by kernel_rfl) (by kernel_rfl) (by kernel_rfl) (by kernel_rfl) (by kernel_rfl) (by kernel_rfl) rfl (InnL.cons (tyDeclared_mk (hd.im 0 rfl)) (InnL.cons (tyDeclared_mk (hd.im 1 rfl)) (InnL.cons (tyDeclared_mk (hd.im 2 rfl)) InnL.nil)))) (fun _ => rfl) fun _ wd41 v H42 hq => ?_
 clear H38 hd
 obtain ⟨g39, rfl, hq⟩ := hq
 replace hS : SH M X w [Ent.own 31 tyDeclared ([y24, y29, y34] : List TDeclared) g39, Ent.im tyValue y34.Long.Value g35, Ent.im tyValue y29.Long.Value g30, Ent.im tyValue y24.Long.Value g25, Ent.own 31 tyDeclared ([y3, y8, y13] : List TDeclared) g18, gE0] _ := hS.join [2, 1, 0] [0, 1, 2, 3, 4] rfl rfl hq
 clear hq
 refine wl_batch 4 5 [] [1, 2] [(1, [], .slice g18.a 3 g18.c), (2, [], .slice g39.a 3 g39.c)] [] H42 (by decide) (by kernel_rfl) trivial fun _ wd43 H44 hb => ?_
 clear H42
 replace hS := hS.below hb
 clear hb
 refine wl_end rfl ?_
 replace hS : SH M X w [Ent.own 31 tyDeclared ([y24, y29, y34] : List TDeclared) g39, Ent.own 31 tyDeclared ([y3, y8, y13] : List TDeclared) g18, gE0] _ := hS.sel [0, 4, 5] rfl
 obtain ⟨y45, hy45, hm⟩ := bindE hm
 obtain ⟨y46, hy46, hm⟩ := bindE hm
 obtain ⟨y47, hy47, hm⟩ := bindE hm
 refine s_reg [(.bool y45), (.bool y46), (.bool y47)] [0] [(0, [], .bool (cond (cond y45 y46 false) y47 false))] [fun wz => RetB Tryd.prog 4 ⟨[.slice g18.a 3 g18.c, .string ⟨⟨[99, 111, 108, 111, 114]⟩⟩, .int .i64 0, .string ⟨⟨[]⟩⟩]⟩ (.bool y45) wz, fun wz => (y45 = true ∧ True → RetB Tryd.prog 4 ⟨[.slice g39.a 3 g39.c, .string ⟨⟨[99, 111, 108, 111, 114]⟩⟩, .int .i64 (-1), .string ⟨⟨[105, 110, 104, 101, 114, 105, 116]⟩⟩]⟩ (.bool y46) wz), fun wz => ((cond y45 y46 false) = true ∧ True → RetB Tryd.prog 4 ⟨[.slice g18.a 3 g18.c, .string ⟨⟨[119, 105, 100, 116, 104]⟩⟩, .int .i64 (-1), .string ⟨⟨[105, 110, 105, 116, 105, 97, 108]⟩⟩]⟩ (.bool y47) wz)] H44 (by kernel_rfl) ⟨(law31_says_ok (g_l_ := g18) m _ _ _ _ _ hy45 _ (s0im (s0im s0nil (hS.im 2 rfl)) (hS.osl 1 rfl))), fun hg => law31_says_ok (g_l_ := g39) m _ _ _ _ _ (bT (hg.1) hy46) _ (s0im (s0im s0nil (hS.im 2 rfl)) (hS.osl 0 rfl)), fun hg => law31_says_ok (g_l_ := g18) m _ _ _ _ _ (bT (hg.1) hy47) _ (s0im (s0im s0nil (hS.im 2 rfl)) (hS.osl 1 rfl)), trivial⟩ fun _ wd48 H49 hb => ?_
 clear H44
 replace hS := hS.below hb
 clear hb
 replace hS : SH M X w [gE0] _ := hS.sel [2] rfl
 refine w_ret ?_
 obtain rfl := someE hm
 exact retR1 H49 rfl rfl ⟨_, rfl, rfl, (hS.sel [] rfl)⟩
theorem law31_alive_ok  (m : Nat)  (r : Bool) (hm : law31_alive m = some r) (w : World) (hL : S0 F0 [gE0] w ∧ fpl [gE0] = []) : RetB Tryd.prog 10 ⟨[]⟩ (.bool r) w := retB_of hL (Tryd.call10 _) (fun w' h => law31_alive_w F0 m    r hm w' h)

def r04_Same_S (rec_ : (List TValue) → (List TValue) → Option (Bool)) : Prop := ∀ (g_a_ : Gh) (g_b_ : Gh) (M : Av) (a_ : List TValue) (b_ : List TValue) (r : Bool), rec_ a_ b_ = some r → ∀ w, S0 M [Ent.im tyValue a_ g_a_, Ent.im tyValue b_ g_b_] w → Calls Tryd.prog 49 ⟨[.slice g_a_.a a_.length g_a_.c, .slice g_b_.a b_.length g_b_.c]⟩ w (fun e w' => ∃ v, e = .returned v ∧ v = .bool r ∧ SH M (fpl [Ent.im tyValue a_ g_a_, Ent.im tyValue b_ g_b_]) w [] w')
def r04_Same_L1 (m : Nat) (a_ : List TValue) (b_ : List TValue) (rec_r04_Same : (List TValue) → (List TValue) → Option (Bool)) : Nat → Int → Option (Sum (Bool) (Unit))
  | 0, _ => none
  | kk + 1, v10 =>
    cond (decide (v10 < (ln a_))) (
    chk (0 ≤ v10 ∧ v10 < ln a_) <|
    chk (0 ≤ v10 ∧ v10 < ln b_) <|
    lt (!((((gi a_ v10).Token.Kind) == ((gi b_ v10).Token.Kind)) && ((((gi a_ v10).Token.Text) == ((gi b_ v10).Token.Text)) && ((((gi a_ v10).Token.Num) == ((gi b_ v10).Token.Num)) && ((((gi a_ v10).Token.Unit) == ((gi b_ v10).Token.Unit)) && ((((gi a_ v10).Token.Flag) == ((gi b_ v10).Token.Flag)) && true)))))) fun x15 =>
    Option.bind (cond x15 (some default) (rec_r04_Same ((gi a_ v10).List_) ((gi b_ v10).List_))) fun y16 =>
    cond (cond x15 true (!y16)) (
    some (.inl false)) (
    r04_Same_L1 m a_ b_ rec_r04_Same kk (w64 (v10 + 1)))) (
    some (.inr ()))
def r04_Same_r (m : Nat) : Nat → (List TValue) → (List TValue) → Option (Bool)
  | 0, _, _ => none
  | k + 1, a_, b_ =>
    cond ((ln a_) != (ln b_)) (
    some false) (
    Option.bind (
    r04_Same_L1 m a_ b_ (r04_Same_r m k) m 0) fun (z7 : Sum (Bool) (Unit)) => sumK z7 fun s_z7 =>
    some true)
theorem r04_Same_w (m : Nat) : ∀ (k : Nat), r04_Same_S (r04_Same_r m  k) := by
 intro k
 induction k with
 | zero => intro g_a_ g_b_ M a_ b_ r hm; exact noneE hm
 | succ k ih =>
  intro g_a_ g_b_ M a_ b_ r hm w hS
  rw [r04_Same_r] at hm
  have hS0 : SH M (fpl [Ent.im tyValue a_ g_a_, Ent.im tyValue b_ g_b_]) w [Ent.im tyValue a_ g_a_, Ent.im tyValue b_ g_b_] w := hS
  generalize hX : fpl [Ent.im tyValue a_ g_a_, Ent.im tyValue b_ g_b_] = X at hS0 ⊢
  clear hS hX
  have hS := hS0
  clear hS0
  refine calls_entryP Tryd.func49 rfl Tryd.ntmps49 rfl fun _ H => ?_
  refine s_reg [] [0, 1] [(0, [], .slice g_a_.a a_.length g_a_.c), (1, [], .slice g_b_.a b_.length g_b_.c)] [] H (by kernel_rfl) trivial fun _ wd1 H2 hb => ?_
  clear H
  replace hS := hS.below hb
  clear hb
  refine w_seq ?_
  refine s_reg [] [0, 1, 10] [(0, [], .slice g_a_.a a_.length g_a_.c), (1, [], .slice g_b_.a b_.length g_b_.c), (10, [], .bool ((ln a_) != (ln b_)))] [] H2 (by kernel_rfl) trivial fun _ wd3 H4 hb => ?_
  clear H2
  replace hS := hS.below hb
  clear hb
  refine w_if H4 rfl (fun hc => ?c29) (fun hc => ?_)
  case c29 =>
   replace hm := bT hc hm
   refine s_reg [] [4] [(4, [], .bool false)] [] H4 (by kernel_rfl) trivial fun _ wd5 H6 hb => ?_
   clear H4
   replace hS := hS.below hb
   clear hb
   replace hS : SH M X w [] _ := hS.sel [] rfl
   refine w_ret ?_
   obtain rfl := someE hm
   exact retR1 H6 rfl rfl ⟨_, rfl, rfl, (hS.sel [] rfl)⟩
  replace hm := bF hc hm
  refine w_skip ?_
  obtain ⟨z7, hz, hm_z7⟩ := bindE hm
  refine w_cut (fun a' w' => ∃ s_z7 : Unit, z7 = Sum.inr s_z7 ∧ Fr 42 [] a' ∧ SH M X w [Ent.im tyValue a_ g_a_, Ent.im tyValue b_ g_b_] w') ?_ ?_
  ·replace hm := hz
   refine s_reg [] [0, 1, 5] [(0, [], .slice g_a_.a a_.length g_a_.c), (1, [], .slice g_b_.a b_.length g_b_.c), (5, [], .int .i64 0)] [] H4 (by kernel_rfl) trivial fun _ wd8 H9 hb => ?_
   clear H4
   replace hS := hS.below hb
   clear hb
   refine w_block ?_
   refine w_loop (fun kk a' w' => ∃ (v10 : Int), r04_Same_L1 m a_ b_ (r04_Same_r m k) kk v10 = some _ ∧ Fr 42 [(0, [], .slice g_a_.a a_.length g_a_.c), (1, [], .slice g_b_.a b_.length g_b_.c), (5, [], .int .i64 v10)] a' ∧ SH M X w [Ent.im tyValue a_ g_a_, Ent.im tyValue b_ g_b_] w') ⟨_, 0, hm, FrG.keep (ks := [0, 1, 5]) H9 (by kernel_rfl), hS⟩ ?_
   clear hm H9 hS
   rintro kk _ wd25 ⟨v10, hm, H, hS⟩
   cases kk with
   | zero => exact noneE hm
   | succ kk =>
    rw [r04_Same_L1] at hm
    refine w_seq ?_
    refine s_reg [] [0, 1, 5, 14] [(0, [], .slice g_a_.a a_.length g_a_.c), (1, [], .slice g_b_.a b_.length g_b_.c), (5, [], .int .i64 v10), (14, [], .bool (decide (v10 < (ln a_))))] [] H (by kernel_rfl) trivial fun _ wd11 H12 hb => ?_
    clear H
    replace hS := hS.below hb
    clear hb
    refine w_if H12 rfl (fun hc => ?_) (fun hc => ?c24)
    case c24 =>
     replace hm := bF hc hm
     refine w_exit rfl ?_
     obtain rfl := someE hm
     exact ⟨_, rfl, FrG.keep (ks := []) H12 (by kernel_rfl), hS⟩
    replace hm := bT hc hm
    refine w_skip ?_
    refine w_seq ?_
    refine w_block ?_
    obtain ⟨ho13, hm⟩ := chkE hm
    obtain ⟨ho14, hm⟩ := chkE hm
    obtain ⟨x15, hx15, hm⟩ := letE hm
    obtain ⟨y16, hy16, hm⟩ := bindE hm
    refine s_draw [(.agg ⟨[.int .u8 ((gi a_ v10).Token.Kind), .string ⟨⟨(gi a_ v10).Token.Text⟩⟩, .int .i64 ((gi a_ v10).Token.Num), .string ⟨⟨(gi a_ v10).Token.Unit⟩⟩, .bool ((gi a_ v10).Token.Flag)]⟩), (.agg ⟨[.int .u8 ((gi b_ v10).Token.Kind), .string ⟨⟨(gi b_ v10).Token.Text⟩⟩, .int .i64 ((gi b_ v10).Token.Num), .string ⟨⟨(gi b_ v10).Token.Unit⟩⟩, .bool ((gi b_ v10).Token.Flag)]⟩), (.slice (g_a_.s (v10).toNat 0).a (((gi a_ v10).List_).length) (g_a_.s (v10).toNat 0).c), (.slice (g_b_.s (v10).toNat 0).a (((gi b_ v10).List_).length) (g_b_.s (v10).toNat 0).c), (.bool y16)] [0, 1, 5, 41] [(0, [], .slice g_a_.a a_.length g_a_.c), (1, [], .slice g_b_.a b_.length g_b_.c), (5, [], .int .i64 v10), (41, [], .bool (cond x15 true (!y16)))] [fun _ => oka g_a_.a ∧ 0 ≤ v10 ∧ v10 < ln a_, fun wz => V.atN (ab g_a_.a) (ao g_a_.a + (v10).toNat * 6) [.int .u8 ((gi a_ v10).Token.Kind), .string ⟨⟨(gi a_ v10).Token.Text⟩⟩, .int .i64 ((gi a_ v10).Token.Num), .string ⟨⟨(gi a_ v10).Token.Unit⟩⟩, .bool ((gi a_ v10).Token.Flag)] 0 wz, fun _ => oka g_b_.a ∧ 0 ≤ v10 ∧ v10 < ln b_, fun wz => V.atN (ab g_b_.a) (ao g_b_.a + (v10).toNat * 6) [.int .u8 ((gi b_ v10).Token.Kind), .string ⟨⟨(gi b_ v10).Token.Text⟩⟩, .int .i64 ((gi b_ v10).Token.Num), .string ⟨⟨(gi b_ v10).Token.Unit⟩⟩, .bool ((gi b_ v10).Token.Flag)] 0 wz, fun _ => (x15 = false ∧ True → oka g_a_.a ∧ 0 ≤ v10 ∧ v10 < ln a_), fun wz => (x15 = false ∧ True → V.at1 ⟨ab g_a_.a, ao g_a_.a + (v10).toNat * 6 + 5, none⟩ (.slice (g_a_.s (v10).toNat 0).a (((gi a_ v10).List_).length) (g_a_.s (v10).toNat 0).c) wz), fun _ => (x15 = false ∧ True → oka g_b_.a ∧ 0 ≤ v10 ∧ v10 < ln b_), fun wz => (x15 = false ∧ True → V.at1 ⟨ab g_b_.a, ao g_b_.a + (v10).toNat * 6 + 5, none⟩ (.slice (g_b_.s (v10).toNat 0).a (((gi b_ v10).List_).length) (g_b_.s (v10).toNat 0).c) wz), fun wz => (x15 = false ∧ True → RetB Tryd.prog 49 ⟨[.slice (g_a_.s (v10).toNat 0).a (((gi a_ v10).List_).length) (g_a_.s (v10).toNat 0).c, .slice (g_b_.s (v10).toNat 0).a (((gi b_ v10).List_).length) (g_b_.s (v10).toNat 0).c]⟩ (.bool y16) wz)] H12 (by kernel_rfl) (by kernel_rfl) (by subst hx15; kernel_rfl) ⟨((hS.im 0 rfl).oki ho13), ((hS.im 0 rfl).atA ho13 0 rfl), ((hS.im 1 rfl).oki ho14), ((hS.im 1 rfl).atA ho14 0 rfl), fun hg => (hS.im 0 rfl).oki ho13, fun hg => (hS.im 0 rfl).at1 ho13 5 rfl, fun hg => (hS.im 1 rfl).oki ho14, fun hg => (hS.im 1 rfl).at1 ho14 5 rfl, fun hg => retB_of (s0im (s0im s0nil (tyValue_i0 ((hS.im 1 rfl).el ho14))) (tyValue_i0 ((hS.im 0 rfl).el ho13))) (Tryd.call49 _) (fun w' h' => ih ((g_a_.s (v10).toNat 0)) ((g_b_.s (v10).toNat 0)) F0 _ _ _ (bF (hg.1) hy16) w' h'), trivial⟩ fun _ wd17 H18 hb => ?_
    clear H12
    replace hS := hS.below hb
    clear hb
    refine w_if H18 rfl (fun hc => ?_) (fun hc => ?c23)
    case c23 =>
     replace hm := bF hc hm
     refine w_skip ?_
     refine w_reg [] [0, 1, 5] [(0, [], .slice g_a_.a a_.length g_a_.c), (1, [], .slice g_b_.a b_.length g_b_.c), (5, [], .int .i64 (w64 (v10 + 1)))] [] H18 (by kernel_rfl) trivial fun _ wd21 H22 hb => ?_
     clear H18
     replace hS := hS.below hb
     clear hb
     exact ⟨_, Nat.lt_succ_self _, w64 (v10 + 1), hm, FrG.keep (ks := [0, 1, 5]) H22 (by kernel_rfl), hS⟩
    replace hm := bT hc hm
    refine s_reg [] [4] [(4, [], .bool false)] [] H18 (by kernel_rfl) trivial fun _ wd19 H20 hb => ?_
    clear H18
    replace hS := hS.below hb
    clear hb
    refine w_ret ?_
    obtain rfl := someE hm
    have hm := hm_z7
    obtain rfl := someE hm
    exact retR1 H20 rfl rfl ⟨_, rfl, rfl, (hS.sel [] rfl)⟩
  ·rintro _ wd28 ⟨s_z7, hz, H, hS⟩
   subst hz
   replace hm := sumR hm_z7
   replace hS : SH M X w [] _ := hS.sel [] rfl
   refine s_reg [] [4] [(4, [], .bool true)] [] H (by kernel_rfl) trivial fun _ wd26 H27 hb => ?_
   clear H
   replace hS := hS.below hb
   clear hb
   refine w_ret ?_
   obtain rfl := someE hm
   exact retR1 H27 rfl rfl ⟨_, rfl, rfl, (hS.sel [] rfl)⟩
def r04_Same (m : Nat) (a_ : List TValue) (b_ : List TValue) : Option (Bool) := r04_Same_r m  m a_ b_
theorem r04_Same_ok {g_a_ : Gh} {g_b_ : Gh} (m : Nat) (a_ : List TValue) (b_ : List TValue) (r : Bool) (hm : r04_Same m a_ b_ = some r) (w : World) (hL : S0 F0 [Ent.im tyValue a_ g_a_, Ent.im tyValue b_ g_b_] w ∧ fpl [Ent.im tyValue a_ g_a_, Ent.im tyValue b_ g_b_] = []) : RetB Tryd.prog 49 ⟨[.slice g_a_.a a_.length g_a_.c, .slice g_b_.a b_.length g_b_.c]⟩ (.bool r) w := retB_of hL (Tryd.call49 _) (fun w' h => r04_Same_w m   m g_a_ g_b_ F0 a_ b_ r hm w' h)

def r27_SameLongs_L1 (m : Nat) (a_ : List TLong) (b_ : List TLong) : Nat → Int → Option (Sum (Bool) (Unit))
  | 0, _ => none
  | kk + 1, v10 =>
    cond (decide (v10 < (ln a_))) (
    chk (0 ≤ v10 ∧ v10 < ln a_) <|
    chk (0 ≤ v10 ∧ v10 < ln b_) <|
    lt (!(((gi a_ v10).Name) == ((gi b_ v10).Name))) fun x15 =>
    lt (cond x15 true (!(((gi a_ v10).Whole) == ((gi b_ v10).Whole)))) fun x16 =>
    Option.bind (cond x16 (some default) (r04_Same m ((gi a_ v10).Value) ((gi b_ v10).Value))) fun y17 =>
    cond (cond x16 true (!y17)) (
    some (.inl false)) (
    r27_SameLongs_L1 m a_ b_ kk (w64 (v10 + 1)))) (
    some (.inr ()))
def r27_SameLongs (m : Nat) (a_ : List TLong) (b_ : List TLong) : Option (Bool) :=
  cond ((ln a_) != (ln b_)) (
  some false) (
  Option.bind (
  r27_SameLongs_L1 m a_ b_ m 0) fun (z7 : Sum (Bool) (Unit)) => sumK z7 fun s_z7 =>
  some true)
theorem r27_SameLongs_w {g_a_ : Gh} {g_b_ : Gh} (M : Av) (m : Nat) (a_ : List TLong) (b_ : List TLong) (r : Bool) (hm : r27_SameLongs m a_ b_ = some r) (w : World) (hS : S0 M [Ent.im tyLong a_ g_a_, Ent.im tyLong b_ g_b_] w) : Calls Tryd.prog 31 ⟨[.slice g_a_.a a_.length g_a_.c, .slice g_b_.a b_.length g_b_.c]⟩ w (fun e w' => ∃ v, e = .returned v ∧ v = .bool r ∧ SH M (fpl [Ent.im tyLong a_ g_a_, Ent.im tyLong b_ g_b_]) w [] w') := by
 rw [r27_SameLongs] at hm
 have hS0 : SH M (fpl [Ent.im tyLong a_ g_a_, Ent.im tyLong b_ g_b_]) w [Ent.im tyLong a_ g_a_, Ent.im tyLong b_ g_b_] w := hS
 generalize hX : fpl [Ent.im tyLong a_ g_a_, Ent.im tyLong b_ g_b_] = X at hS0 ⊢
 clear hS hX
 have hS := hS0
 clear hS0
 refine calls_entryP Tryd.func31 rfl Tryd.ntmps31 rfl fun _ H => ?_
 refine s_reg [] [0, 1] [(0, [], .slice g_a_.a a_.length g_a_.c), (1, [], .slice g_b_.a b_.length g_b_.c)] [] H (by kernel_rfl) trivial fun _ wd1 H2 hb => ?_
 clear H
 replace hS := hS.below hb
 clear hb
 refine w_seq ?_
 refine s_reg [] [0, 1, 10] [(0, [], .slice g_a_.a a_.length g_a_.c), (1, [], .slice g_b_.a b_.length g_b_.c), (10, [], .bool ((ln a_) != (ln b_)))] [] H2 (by kernel_rfl) trivial fun _ wd3 H4 hb => ?_
 clear H2
 replace hS := hS.below hb
 clear hb
 refine w_if H4 rfl (fun hc => ?c30) (fun hc => ?_)
 case c30 =>
  replace hm := bT hc hm
  refine s_reg [] [4] [(4, [], .bool false)] [] H4 (by kernel_rfl) trivial fun _ wd5 H6 hb => ?_
  clear H4
  replace hS := hS.below hb
  clear hb
  replace hS : SH M X w [] _ := hS.sel [] rfl
  refine w_ret ?_
  obtain rfl := someE hm
  exact retR1 H6 rfl rfl ⟨_, rfl, rfl, (hS.sel [] rfl)⟩
 replace hm := bF hc hm
 refine w_skip ?_
 obtain ⟨z7, hz, hm_z7⟩ := bindE hm
 refine w_cut (fun a' w' => ∃ s_z7 : Unit, z7 = Sum.inr s_z7 ∧ Fr 55 [] a' ∧ SH M X w [Ent.im tyLong a_ g_a_, Ent.im tyLong b_ g_b_] w') ?_ ?_
 ·replace hm := hz
  refine s_reg [] [0, 1, 5] [(0, [], .slice g_a_.a a_.length g_a_.c), (1, [], .slice g_b_.a b_.length g_b_.c), (5, [], .int .i64 0)] [] H4 (by kernel_rfl) trivial fun _ wd8 H9 hb => ?_
  clear H4
  replace hS := hS.below hb
  clear hb
  refine w_block ?_
  refine w_loop (fun kk a' w' => ∃ (v10 : Int), r27_SameLongs_L1 m a_ b_ kk v10 = some _ ∧ Fr 55 [(0, [], .slice g_a_.a a_.length g_a_.c), (1, [], .slice g_b_.a b_.length g_b_.c), (5, [], .int .i64 v10)] a' ∧ SH M X w [Ent.im tyLong a_ g_a_, Ent.im tyLong b_ g_b_] w') ⟨_, 0, hm, FrG.keep (ks := [0, 1, 5]) H9 (by kernel_rfl), hS⟩ ?_
  clear hm H9 hS
  rintro kk _ wd26 ⟨v10, hm, H, hS⟩
  cases kk with
  | zero => exact noneE hm
  | succ kk =>
   rw [r27_SameLongs_L1] at hm
   refine w_seq ?_
   refine s_reg [] [0, 1, 5, 14] [(0, [], .slice g_a_.a a_.length g_a_.c), (1, [], .slice g_b_.a b_.length g_b_.c), (5, [], .int .i64 v10), (14, [], .bool (decide (v10 < (ln a_))))] [] H (by kernel_rfl) trivial fun _ wd11 H12 hb => ?_
   clear H
   replace hS := hS.below hb
   clear hb
   refine w_if H12 rfl (fun hc => ?_) (fun hc => ?c25)
   case c25 =>
    replace hm := bF hc hm
    refine w_exit rfl ?_
    obtain rfl := someE hm
    exact ⟨_, rfl, FrG.keep (ks := []) H12 (by kernel_rfl), hS⟩
   replace hm := bT hc hm
   refine w_skip ?_
   refine w_seq ?_
   refine w_block ?_
   obtain ⟨ho13, hm⟩ := chkE hm
   obtain ⟨ho14, hm⟩ := chkE hm
   obtain ⟨x15, hx15, hm⟩ := letE hm
   obtain ⟨x16, hx16, hm⟩ := letE hm
   obtain ⟨y17, hy17, hm⟩ := bindE hm
   refine s_draw [(.string ⟨⟨(gi a_ v10).Name⟩⟩), (.string ⟨⟨(gi b_ v10).Name⟩⟩), (.string ⟨⟨(gi a_ v10).Whole⟩⟩), (.string ⟨⟨(gi b_ v10).Whole⟩⟩), (.slice (g_a_.s (v10).toNat 0).a (((gi a_ v10).Value).length) (g_a_.s (v10).toNat 0).c), (.slice (g_b_.s (v10).toNat 0).a (((gi b_ v10).Value).length) (g_b_.s (v10).toNat 0).c), (.bool y17)] [0, 1, 5, 54] [(0, [], .slice g_a_.a a_.length g_a_.c), (1, [], .slice g_b_.a b_.length g_b_.c), (5, [], .int .i64 v10), (54, [], .bool (cond x16 true (!y17)))] [fun _ => oka g_a_.a ∧ 0 ≤ v10 ∧ v10 < ln a_, fun wz => V.at1 ⟨ab g_a_.a, ao g_a_.a + (v10).toNat * 3, none⟩ (.string ⟨⟨(gi a_ v10).Name⟩⟩) wz, fun _ => oka g_b_.a ∧ 0 ≤ v10 ∧ v10 < ln b_, fun wz => V.at1 ⟨ab g_b_.a, ao g_b_.a + (v10).toNat * 3, none⟩ (.string ⟨⟨(gi b_ v10).Name⟩⟩) wz, fun _ => (x15 = false ∧ True → oka g_a_.a ∧ 0 ≤ v10 ∧ v10 < ln a_), fun wz => (x15 = false ∧ True → V.at1 ⟨ab g_a_.a, ao g_a_.a + (v10).toNat * 3 + 2, none⟩ (.string ⟨⟨(gi a_ v10).Whole⟩⟩) wz), fun _ => (x15 = false ∧ True → oka g_b_.a ∧ 0 ≤ v10 ∧ v10 < ln b_), fun wz => (x15 = false ∧ True → V.at1 ⟨ab g_b_.a, ao g_b_.a + (v10).toNat * 3 + 2, none⟩ (.string ⟨⟨(gi b_ v10).Whole⟩⟩) wz), fun _ => (x16 = false ∧ True → oka g_a_.a ∧ 0 ≤ v10 ∧ v10 < ln a_), fun wz => (x16 = false ∧ True → V.at1 ⟨ab g_a_.a, ao g_a_.a + (v10).toNat * 3 + 1, none⟩ (.slice (g_a_.s (v10).toNat 0).a (((gi a_ v10).Value).length) (g_a_.s (v10).toNat 0).c) wz), fun _ => (x16 = false ∧ True → oka g_b_.a ∧ 0 ≤ v10 ∧ v10 < ln b_), fun wz => (x16 = false ∧ True → V.at1 ⟨ab g_b_.a, ao g_b_.a + (v10).toNat * 3 + 1, none⟩ (.slice (g_b_.s (v10).toNat 0).a (((gi b_ v10).Value).length) (g_b_.s (v10).toNat 0).c) wz), fun wz => (x16 = false ∧ True → RetB Tryd.prog 49 ⟨[.slice (g_a_.s (v10).toNat 0).a (((gi a_ v10).Value).length) (g_a_.s (v10).toNat 0).c, .slice (g_b_.s (v10).toNat 0).a (((gi b_ v10).Value).length) (g_b_.s (v10).toNat 0).c]⟩ (.bool y17) wz)] H12 (by kernel_rfl) (by kernel_rfl) (by subst hx15 hx16; kernel_rfl) ⟨((hS.im 0 rfl).oki ho13), ((hS.im 0 rfl).at1 ho13 0 rfl), ((hS.im 1 rfl).oki ho14), ((hS.im 1 rfl).at1 ho14 0 rfl), fun hg => (hS.im 0 rfl).oki ho13, fun hg => (hS.im 0 rfl).at1 ho13 2 rfl, fun hg => (hS.im 1 rfl).oki ho14, fun hg => (hS.im 1 rfl).at1 ho14 2 rfl, fun hg => (hS.im 0 rfl).oki ho13, fun hg => (hS.im 0 rfl).at1 ho13 1 rfl, fun hg => (hS.im 1 rfl).oki ho14, fun hg => (hS.im 1 rfl).at1 ho14 1 rfl, fun hg => r04_Same_ok (g_a_ := (g_a_.s (v10).toNat 0)) (g_b_ := (g_b_.s (v10).toNat 0)) m _ _ _ (bF (hg.1) hy17) _ (s0im (s0im s0nil (tyLong_i0 ((hS.im 1 rfl).el ho14))) (tyLong_i0 ((hS.im 0 rfl).el ho13))), trivial⟩ fun _ wd18 H19 hb => ?_
   clear H12
   replace hS := hS.below hb
   clear hb
   refine w_if H19 rfl (fun hc => ?_) (fun hc => ?c24)
   case c24 =>
    replace hm := bF hc hm
    refine w_skip ?_
    refine w_reg [] [0, 1, 5] [(0, [], .slice g_a_.a a_.length g_a_.c), (1, [], .slice g_b_.a b_.length g_b_.c), (5, [], .int .i64 (w64 (v10 + 1)))] [] H19 (by kernel_rfl) trivial fun _ wd22 H23 hb => ?_
    clear H19
    replace hS := hS.below hb
    clear hb
    exact ⟨_, Nat.lt_succ_self _, w64 (v10 + 1), hm, FrG.keep (ks := [0, 1, 5]) H23 (by kernel_rfl), hS⟩
   replace hm := bT hc hm
   refine s_reg [] [4] [(4, [], .bool false)] [] H19 (by kernel_rfl) trivial fun _ wd20 H21 hb => ?_
   clear H19
   replace hS := hS.below hb
   clear hb
   refine w_ret ?_
   obtain rfl := someE hm
   have hm := hm_z7
   obtain rfl := someE hm
   exact retR1 H21 rfl rfl ⟨_, rfl, rfl, (hS.sel [] rfl)⟩
 ·rintro _ wd29 ⟨s_z7, hz, H, hS⟩
  subst hz
  replace hm := sumR hm_z7
  replace hS : SH M X w [] _ := hS.sel [] rfl
  refine s_reg [] [4] [(4, [], .bool true)] [] H (by kernel_rfl) trivial fun _ wd27 H28 hb => ?_
  clear H
  replace hS := hS.below hb
  clear hb
  refine w_ret ?_
  obtain rfl := someE hm
  exact retR1 H28 rfl rfl ⟨_, rfl, rfl, (hS.sel [] rfl)⟩
theorem r27_SameLongs_ok {g_a_ : Gh} {g_b_ : Gh} (m : Nat) (a_ : List TLong) (b_ : List TLong) (r : Bool) (hm : r27_SameLongs m a_ b_ = some r) (w : World) (hL : S0 F0 [Ent.im tyLong a_ g_a_, Ent.im tyLong b_ g_b_] w ∧ fpl [Ent.im tyLong a_ g_a_, Ent.im tyLong b_ g_b_] = []) : RetB Tryd.prog 31 ⟨[.slice g_a_.a a_.length g_a_.c, .slice g_b_.a b_.length g_b_.c]⟩ (.bool r) w := retB_of hL (Tryd.call31 _) (fun w' h => r27_SameLongs_w F0 m   a_ b_ r hm w' h)

def r29_SameOne (m : Nat) (a_ : TDeclared) (b_ : TDeclared) : Option (Bool) :=
  Option.bind (r27_SameLongs m ([a_.Long] : List TLong) ([b_.Long] : List TLong)) fun y21 =>
  lt (cond y21 (a_.Important == b_.Important) false) fun x22 =>
  lt (cond (cond x22 (a_.Origin == b_.Origin) false) (a_.Attached == b_.Attached) false) fun x23 =>
  lt (cond (cond x23 (a_.Layer == b_.Layer) false) ((a_.Weight.e0 == b_.Weight.e0) && ((a_.Weight.e1 == b_.Weight.e1) && ((a_.Weight.e2 == b_.Weight.e2) && true))) false) fun x24 =>
  some (cond x24 (a_.Order == b_.Order) false)
theorem r29_SameOne_w {g_a__0 : Gh} {g_b__0 : Gh} (M : Av) (m : Nat) (a_ : TDeclared) (b_ : TDeclared) (r : Bool) (hm : r29_SameOne m a_ b_ = some r) (w : World) (hS : S0 M [Ent.im tyValue a_.Long.Value g_a__0, Ent.im tyValue b_.Long.Value g_b__0] w) : Calls Tryd.prog 19 ⟨[.agg ⟨[.string ⟨⟨a_.Long.Name⟩⟩, .slice g_a__0.a a_.Long.Value.length g_a__0.c, .string ⟨⟨a_.Long.Whole⟩⟩, .bool a_.Important, .int .u8 a_.Origin, .bool a_.Attached, .int .i64 a_.Layer, .int .i64 a_.Weight.e0, .int .i64 a_.Weight.e1, .int .i64 a_.Weight.e2, .int .i64 a_.Order]⟩, .agg ⟨[.string ⟨⟨b_.Long.Name⟩⟩, .slice g_b__0.a b_.Long.Value.length g_b__0.c, .string ⟨⟨b_.Long.Whole⟩⟩, .bool b_.Important, .int .u8 b_.Origin, .bool b_.Attached, .int .i64 b_.Layer, .int .i64 b_.Weight.e0, .int .i64 b_.Weight.e1, .int .i64 b_.Weight.e2, .int .i64 b_.Order]⟩]⟩ w (fun e w' => ∃ v, e = .returned v ∧ v = .bool r ∧ SH M (fpl [Ent.im tyValue a_.Long.Value g_a__0, Ent.im tyValue b_.Long.Value g_b__0]) w [] w') := by
 rw [r29_SameOne] at hm
 have hS0 : SH M (fpl [Ent.im tyValue a_.Long.Value g_a__0, Ent.im tyValue b_.Long.Value g_b__0]) w [Ent.im tyValue a_.Long.Value g_a__0, Ent.im tyValue b_.Long.Value g_b__0] w := hS
 generalize hX : fpl [Ent.im tyValue a_.Long.Value g_a__0, Ent.im tyValue b_.Long.Value g_b__0] = X at hS0 ⊢
 clear hS hX
 have hS := hS0
 clear hS0
 refine calls_entryP Tryd.func19 rfl Tryd.ntmps19 rfl fun _ H => ?_
 refine w_seq ?_
 refine wl_start ?_
 have hd := hS.hand [] [0, 1] rfl rfl
 refine m_stp [2, 1] [(1, [], .agg ⟨[.string ⟨⟨b_.Long.Name⟩⟩, .slice g_b__0.a b_.Long.Value.length g_b__0.c, .string ⟨⟨b_.Long.Whole⟩⟩, .bool b_.Important, .int .u8 b_.Origin, .bool b_.Attached, .int .i64 b_.Layer, .int .i64 b_.Weight.e0, .int .i64 b_.Weight.e1, .int .i64 b_.Weight.e2, .int .i64 b_.Order]⟩)] H rfl rfl rfl rfl (o_box [.string ⟨⟨a_.Long.Name⟩⟩, .slice g_a__0.a a_.Long.Value.length g_a__0.c, .string ⟨⟨a_.Long.Whole⟩⟩, .bool a_.Important, .int .u8 a_.Origin, .bool a_.Attached, .int .i64 a_.Layer, .int .i64 a_.Weight.e0, .int .i64 a_.Weight.e1, .int .i64 a_.Weight.e2, .int .i64 a_.Order] H hd rfl rfl) (fun _ => rfl) fun _ wd2 v H3 hq => ?_
 clear H hd
 obtain ⟨b1, rfl, hq⟩ := hq
 replace hS : SH M X w [Ent.blk b1 [.string ⟨⟨a_.Long.Name⟩⟩, .slice g_a__0.a a_.Long.Value.length g_a__0.c, .string ⟨⟨a_.Long.Whole⟩⟩, .bool a_.Important, .int .u8 a_.Origin, .bool a_.Attached, .int .i64 a_.Layer, .int .i64 a_.Weight.e0, .int .i64 a_.Weight.e1, .int .i64 a_.Weight.e2, .int .i64 a_.Order], Ent.im tyValue a_.Long.Value g_a__0, Ent.im tyValue b_.Long.Value g_b__0] _ := hS.join [] [0, 1] rfl rfl hq
 clear hq
 have hd := hS.hand [] [0, 1, 2] rfl rfl
 refine m_stp [3, 2] [(2, [], .pointer (some ⟨b1, 0, none⟩))] H3 rfl rfl rfl rfl (o_box [.string ⟨⟨b_.Long.Name⟩⟩, .slice g_b__0.a b_.Long.Value.length g_b__0.c, .string ⟨⟨b_.Long.Whole⟩⟩, .bool b_.Important, .int .u8 b_.Origin, .bool b_.Attached, .int .i64 b_.Layer, .int .i64 b_.Weight.e0, .int .i64 b_.Weight.e1, .int .i64 b_.Weight.e2, .int .i64 b_.Order] H3 hd rfl rfl) (fun _ => rfl) fun _ wd5 v H6 hq => ?_
 clear H3 hd
 obtain ⟨b4, rfl, hq⟩ := hq
 replace hS : SH M X w [Ent.blk b4 [.string ⟨⟨b_.Long.Name⟩⟩, .slice g_b__0.a b_.Long.Value.length g_b__0.c, .string ⟨⟨b_.Long.Whole⟩⟩, .bool b_.Important, .int .u8 b_.Origin, .bool b_.Attached, .int .i64 b_.Layer, .int .i64 b_.Weight.e0, .int .i64 b_.Weight.e1, .int .i64 b_.Weight.e2, .int .i64 b_.Order], Ent.blk b1 [.string ⟨⟨a_.Long.Name⟩⟩, .slice g_a__0.a a_.Long.Value.length g_a__0.c, .string ⟨⟨a_.Long.Whole⟩⟩, .bool a_.Important, .int .u8 a_.Origin, .bool a_.Attached, .int .i64 a_.Layer, .int .i64 a_.Weight.e0, .int .i64 a_.Weight.e1, .int .i64 a_.Weight.e2, .int .i64 a_.Order], Ent.im tyValue a_.Long.Value g_a__0, Ent.im tyValue b_.Long.Value g_b__0] _ := hS.join [] [0, 1, 2] rfl rfl hq
 clear hq
 refine wl_batch 2 3 [] [2, 3] [(2, [], .pointer (some ⟨b1, 0, none⟩)), (3, [], .pointer (some ⟨b4, 0, none⟩))] [] H6 (by decide) (by kernel_rfl) trivial fun _ wd7 H8 hb => ?_
 clear H6
 replace hS := hS.below hb
 clear hb
 refine wl_end rfl ?_
 refine w_seq ?_
 refine wl_start ?_
 refine wl_batch 0 2 [(.agg ⟨[.string ⟨⟨a_.Long.Name⟩⟩, .slice g_a__0.a a_.Long.Value.length g_a__0.c, .string ⟨⟨a_.Long.Whole⟩⟩]⟩)] [2, 3, 6] [(2, [], .pointer (some ⟨b1, 0, none⟩)), (3, [], .pointer (some ⟨b4, 0, none⟩)), (6, [], .agg ⟨[.string ⟨⟨a_.Long.Name⟩⟩, .slice g_a__0.a a_.Long.Value.length g_a__0.c, .string ⟨⟨a_.Long.Whole⟩⟩]⟩)] [fun wz => V.atN b1 0 [.string ⟨⟨a_.Long.Name⟩⟩, .slice g_a__0.a a_.Long.Value.length g_a__0.c, .string ⟨⟨a_.Long.Whole⟩⟩] 0 wz] H8 (by decide) (by kernel_rfl) ⟨((hS.bk 1 rfl).atD rfl), trivial⟩ fun _ wd9 H10 hb => ?_
 clear H8
 replace hS := hS.below hb
 clear hb
 have hd := hS.hand [2] [0, 1, 2, 3] rfl rfl
 refine m_stp [7, 2, 3] [(2, [], .pointer (some ⟨b1, 0, none⟩)), (3, [], .pointer (some ⟨b4, 0, none⟩))] H10 rfl rfl rfl rfl (o_lit (T := tyLong) (E := 27) (zv := .agg ⟨[.string ⟨⟨[]⟩⟩, .slice none 0 0, .string ⟨⟨[]⟩⟩]⟩) [.string ⟨⟨a_.Long.Name⟩⟩, .slice g_a__0.a a_.Long.Value.length g_a__0.c, .string ⟨⟨a_.Long.Whole⟩⟩] ([a_.Long] : List TLong) [gL [g_a__0]] _ H10 hd rfl (by kernel_rfl) (by kernel_rfl) (by kernel_rfl) (by kernel_rfl) (by kernel_rfl) (by kernel_rfl) (by kernel_rfl) rfl (InnL.cons (tyLong_mk (hd.im 0 rfl)) InnL.nil)) (fun _ => rfl) fun _ wd13 v H14 hq => ?_
 clear H10 hd
 obtain ⟨g11, rfl, hq⟩ := hq
 replace hS : SH M X w [Ent.own 27 tyLong ([a_.Long] : List TLong) g11, Ent.blk b4 [.string ⟨⟨b_.Long.Name⟩⟩, .slice g_b__0.a b_.Long.Value.length g_b__0.c, .string ⟨⟨b_.Long.Whole⟩⟩, .bool b_.Important, .int .u8 b_.Origin, .bool b_.Attached, .int .i64 b_.Layer, .int .i64 b_.Weight.e0, .int .i64 b_.Weight.e1, .int .i64 b_.Weight.e2, .int .i64 b_.Order], Ent.blk b1 [.string ⟨⟨a_.Long.Name⟩⟩, .slice g_a__0.a a_.Long.Value.length g_a__0.c, .string ⟨⟨a_.Long.Whole⟩⟩, .bool a_.Important, .int .u8 a_.Origin, .bool a_.Attached, .int .i64 a_.Layer, .int .i64 a_.Weight.e0, .int .i64 a_.Weight.e1, .int .i64 a_.Weight.e2, .int .i64 a_.Order], Ent.im tyValue a_.Long.Value g_a__0, Ent.im tyValue b_.Long.Value g_b__0] _ := hS.join [2] [0, 1, 2, 3] rfl rfl hq
 clear hq
 refine wl_batch 3 5 [(.agg ⟨[.string ⟨⟨b_.Long.Name⟩⟩, .slice g_b__0.a b_.Long.Value.length g_b__0.c, .string ⟨⟨b_.Long.Whole⟩⟩]⟩)] [2, 3, 7, 9] [(2, [], .pointer (some ⟨b1, 0, none⟩)), (3, [], .pointer (some ⟨b4, 0, none⟩)), (7, [], .slice g11.a 1 g11.c), (9, [], .agg ⟨[.string ⟨⟨b_.Long.Name⟩⟩, .slice g_b__0.a b_.Long.Value.length g_b__0.c, .string ⟨⟨b_.Long.Whole⟩⟩]⟩)] [fun wz => V.atN b4 0 [.string ⟨⟨b_.Long.Name⟩⟩, .slice g_b__0.a b_.Long.Value.length g_b__0.c, .string ⟨⟨b_.Long.Whole⟩⟩] 0 wz] H14 (by decide) (by kernel_rfl) ⟨((hS.bk 1 rfl).atD rfl), trivial⟩ fun _ wd15 H16 hb => ?_
 clear H14
 replace hS := hS.below hb
 clear hb
 have hd := hS.hand [4] [0, 1, 2, 3, 4] rfl rfl
 refine m_stp [10, 2, 3, 7] [(2, [], .pointer (some ⟨b1, 0, none⟩)), (3, [], .pointer (some ⟨b4, 0, none⟩)), (7, [], .slice g11.a 1 g11.c)] H16 rfl rfl rfl rfl (o_lit (T := tyLong) (E := 27) (zv := .agg ⟨[.string ⟨⟨[]⟩⟩, .slice none 0 0, .string ⟨⟨[]⟩⟩]⟩) [.string ⟨⟨b_.Long.Name⟩⟩, .slice g_b__0.a b_.Long.Value.length g_b__0.c, .string ⟨⟨b_.Long.Whole⟩⟩] ([b_.Long] : List TLong) [gL [g_b__0]] _ H16 hd rfl (by kernel_rfl) (by kernel_rfl) (by kernel_rfl) (by kernel_rfl) (by kernel_rfl) (by kernel_rfl) (by kernel_rfl) rfl (InnL.cons (tyLong_mk (hd.im 0 rfl)) InnL.nil)) (fun _ => rfl) fun _ wd19 v H20 hq => ?_
 clear H16 hd
 obtain ⟨g17, rfl, hq⟩ := hq
 replace hS : SH M X w [Ent.own 27 tyLong ([b_.Long] : List TLong) g17, Ent.own 27 tyLong ([a_.Long] : List TLong) g11, Ent.blk b4 [.string ⟨⟨b_.Long.Name⟩⟩, .slice g_b__0.a b_.Long.Value.length g_b__0.c, .string ⟨⟨b_.Long.Whole⟩⟩, .bool b_.Important, .int .u8 b_.Origin, .bool b_.Attached, .int .i64 b_.Layer, .int .i64 b_.Weight.e0, .int .i64 b_.Weight.e1, .int .i64 b_.Weight.e2, .int .i64 b_.Order], Ent.blk b1 [.string ⟨⟨a_.Long.Name⟩⟩, .slice g_a__0.a a_.Long.Value.length g_a__0.c, .string ⟨⟨a_.Long.Whole⟩⟩, .bool a_.Important, .int .u8 a_.Origin, .bool a_.Attached, .int .i64 a_.Layer, .int .i64 a_.Weight.e0, .int .i64 a_.Weight.e1, .int .i64 a_.Weight.e2, .int .i64 a_.Order], Ent.im tyValue a_.Long.Value g_a__0, Ent.im tyValue b_.Long.Value g_b__0] _ := hS.join [4] [0, 1, 2, 3, 4] rfl rfl hq
 clear hq
 obtain ⟨y21, hy21, hm⟩ := bindE hm
 obtain ⟨x22, hx22, hm⟩ := letE hm
 obtain ⟨x23, hx23, hm⟩ := letE hm
 obtain ⟨x24, hx24, hm⟩ := letE hm
 refine wl_batch 6 50 [(.bool y21), (.bool a_.Important), (.bool b_.Important), (.int .u8 a_.Origin), (.int .u8 b_.Origin), (.bool a_.Attached), (.bool b_.Attached), (.int .i64 a_.Layer), (.int .i64 b_.Layer), (.agg ⟨[.int .i64 a_.Weight.e0, .int .i64 a_.Weight.e1, .int .i64 a_.Weight.e2]⟩), (.agg ⟨[.int .i64 b_.Weight.e0, .int .i64 b_.Weight.e1, .int .i64 b_.Weight.e2]⟩), (.int .i64 a_.Order), (.int .i64 b_.Order)] [4] [(4, [], .bool (cond x24 (a_.Order == b_.Order) false))] [fun wz => RetB Tryd.prog 31 ⟨[.slice g11.a 1 g11.c, .slice g17.a 1 g17.c]⟩ (.bool y21) wz, fun wz => (y21 = true ∧ True → V.at1 ⟨b1, 3, none⟩ (.bool a_.Important) wz), fun wz => (y21 = true ∧ True → V.at1 ⟨b4, 3, none⟩ (.bool b_.Important) wz), fun wz => (x22 = true ∧ True → V.at1 ⟨b1, 4, none⟩ (.int .u8 a_.Origin) wz), fun wz => (x22 = true ∧ True → V.at1 ⟨b4, 4, none⟩ (.int .u8 b_.Origin) wz), fun wz => ((cond x22 (a_.Origin == b_.Origin) false) = true ∧ True → V.at1 ⟨b1, 5, none⟩ (.bool a_.Attached) wz), fun wz => ((cond x22 (a_.Origin == b_.Origin) false) = true ∧ True → V.at1 ⟨b4, 5, none⟩ (.bool b_.Attached) wz), fun wz => (x23 = true ∧ True → V.at1 ⟨b1, 6, none⟩ (.int .i64 a_.Layer) wz), fun wz => (x23 = true ∧ True → V.at1 ⟨b4, 6, none⟩ (.int .i64 b_.Layer) wz), fun wz => ((cond x23 (a_.Layer == b_.Layer) false) = true ∧ True → V.atN b1 7 [.int .i64 a_.Weight.e0, .int .i64 a_.Weight.e1, .int .i64 a_.Weight.e2] 0 wz), fun wz => ((cond x23 (a_.Layer == b_.Layer) false) = true ∧ True → V.atN b4 7 [.int .i64 b_.Weight.e0, .int .i64 b_.Weight.e1, .int .i64 b_.Weight.e2] 0 wz), fun wz => (x24 = true ∧ True → V.at1 ⟨b1, 10, none⟩ (.int .i64 a_.Order) wz), fun wz => (x24 = true ∧ True → V.at1 ⟨b4, 10, none⟩ (.int .i64 b_.Order) wz)] H20 (by decide) (by subst hx22 hx23 hx24; kernel_rfl) ⟨(r27_SameLongs_ok (g_a_ := g11) (g_b_ := g17) m _ _ _ hy21 _ (s0im (s0im s0nil (hS.osl 0 rfl)) (hS.osl 1 rfl))), fun hg => (hS.bk 3 rfl).at1 rfl, fun hg => (hS.bk 2 rfl).at1 rfl, fun hg => (hS.bk 3 rfl).at1 rfl, fun hg => (hS.bk 2 rfl).at1 rfl, fun hg => (hS.bk 3 rfl).at1 rfl, fun hg => (hS.bk 2 rfl).at1 rfl, fun hg => (hS.bk 3 rfl).at1 rfl, fun hg => (hS.bk 2 rfl).at1 rfl, fun hg => (hS.bk 3 rfl).atD rfl, fun hg => (hS.bk 2 rfl).atD rfl, fun hg => (hS.bk 3 rfl).at1 rfl, fun hg => (hS.bk 2 rfl).at1 rfl, trivial⟩ fun _ wd25 H26 hb => ?_
 clear H20
 replace hS := hS.below hb
 clear hb
 refine wl_end rfl ?_
 replace hS : SH M X w [] _ := hS.sel [] rfl
 refine w_ret ?_
 obtain rfl := someE hm
 exact retR1 H26 rfl rfl ⟨_, rfl, rfl, (hS.sel [] rfl)⟩
theorem r29_SameOne_ok {g_a__0 : Gh} {g_b__0 : Gh} (m : Nat) (a_ : TDeclared) (b_ : TDeclared) (r : Bool) (hm : r29_SameOne m a_ b_ = some r) (w : World) (hL : S0 F0 [Ent.im tyValue a_.Long.Value g_a__0, Ent.im tyValue b_.Long.Value g_b__0] w ∧ fpl [Ent.im tyValue a_.Long.Value g_a__0, Ent.im tyValue b_.Long.Value g_b__0] = []) : RetB Tryd.prog 19 ⟨[.agg ⟨[.string ⟨⟨a_.Long.Name⟩⟩, .slice g_a__0.a a_.Long.Value.length g_a__0.c, .string ⟨⟨a_.Long.Whole⟩⟩, .bool a_.Important, .int .u8 a_.Origin, .bool a_.Attached, .int .i64 a_.Layer, .int .i64 a_.Weight.e0, .int .i64 a_.Weight.e1, .int .i64 a_.Weight.e2, .int .i64 a_.Order]⟩, .agg ⟨[.string ⟨⟨b_.Long.Name⟩⟩, .slice g_b__0.a b_.Long.Value.length g_b__0.c, .string ⟨⟨b_.Long.Whole⟩⟩, .bool b_.Important, .int .u8 b_.Origin, .bool b_.Attached, .int .i64 b_.Layer, .int .i64 b_.Weight.e0, .int .i64 b_.Weight.e1, .int .i64 b_.Weight.e2, .int .i64 b_.Order]⟩]⟩ (.bool r) w := retB_of hL (Tryd.call19 _) (fun w' h => r29_SameOne_w F0 m   a_ b_ r hm w' h)

def r29_Same_L1 (m : Nat) (a_ : List TDeclared) (b_ : List TDeclared) : Nat → Int → Option (Sum (Bool) (Unit))
  | 0, _ => none
  | kk + 1, v10 =>
    cond (decide (v10 < (ln a_))) (
    chk (0 ≤ v10 ∧ v10 < ln a_) <|
    chk (0 ≤ v10 ∧ v10 < ln b_) <|
    Option.bind (r29_SameOne m (gi a_ v10) (gi b_ v10)) fun y15 =>
    cond (!y15) (
    some (.inl false)) (
    r29_Same_L1 m a_ b_ kk (w64 (v10 + 1)))) (
    some (.inr ()))
def r29_Same (m : Nat) (a_ : List TDeclared) (b_ : List TDeclared) : Option (Bool) :=
  cond ((ln a_) != (ln b_)) (
  some false) (
  Option.bind (
  r29_Same_L1 m a_ b_ m 0) fun (z7 : Sum (Bool) (Unit)) => sumK z7 fun s_z7 =>
  some true)
theorem r29_Same_w {g_a_ : Gh} {g_b_ : Gh} (M : Av) (m : Nat) (a_ : List TDeclared) (b_ : List TDeclared) (r : Bool) (hm : r29_Same m a_ b_ = some r) (w : World) (hS : S0 M [Ent.im tyDeclared a_ g_a_, Ent.im tyDeclared b_ g_b_] w) : Calls Tryd.prog 11 ⟨[.slice g_a_.a a_.length g_a_.c, .slice g_b_.a b_.length g_b_.c]⟩ w (fun e w' => ∃ v, e = .returned v ∧ v = .bool r ∧ SH M (fpl [Ent.im tyDeclared a_ g_a_, Ent.im tyDeclared b_ g_b_]) w [] w') := by
 rw [r29_Same] at hm
 have hS0 : SH M (fpl [Ent.im tyDeclared a_ g_a_, Ent.im tyDeclared b_ g_b_]) w [Ent.im tyDeclared a_ g_a_, Ent.im tyDeclared b_ g_b_] w := hS
 generalize hX : fpl [Ent.im tyDeclared a_ g_a_, Ent.im tyDeclared b_ g_b_] = X at hS0 ⊢
 clear hS hX
 have hS := hS0
 clear hS0
 refine calls_entryP Tryd.func11 rfl Tryd.ntmps11 rfl fun _ H => ?_
 refine s_reg [] [0, 1] [(0, [], .slice g_a_.a a_.length g_a_.c), (1, [], .slice g_b_.a b_.length g_b_.c)] [] H (by kernel_rfl) trivial fun _ wd1 H2 hb => ?_
 clear H
 replace hS := hS.below hb
 clear hb
 refine w_seq ?_
 refine s_reg [] [0, 1, 10] [(0, [], .slice g_a_.a a_.length g_a_.c), (1, [], .slice g_b_.a b_.length g_b_.c), (10, [], .bool ((ln a_) != (ln b_)))] [] H2 (by kernel_rfl) trivial fun _ wd3 H4 hb => ?_
 clear H2
 replace hS := hS.below hb
 clear hb
 refine w_if H4 rfl (fun hc => ?c28) (fun hc => ?_)
 case c28 =>
  replace hm := bT hc hm
  refine s_reg [] [4] [(4, [], .bool false)] [] H4 (by kernel_rfl) trivial fun _ wd5 H6 hb => ?_
  clear H4
  replace hS := hS.below hb
  clear hb
  replace hS : SH M X w [] _ := hS.sel [] rfl
  refine w_ret ?_
  obtain rfl := someE hm
  exact retR1 H6 rfl rfl ⟨_, rfl, rfl, (hS.sel [] rfl)⟩
 replace hm := bF hc hm
 refine w_skip ?_
 obtain ⟨z7, hz, hm_z7⟩ := bindE hm
 refine w_cut (fun a' w' => ∃ s_z7 : Unit, z7 = Sum.inr s_z7 ∧ Fr 27 [] a' ∧ SH M X w [Ent.im tyDeclared a_ g_a_, Ent.im tyDeclared b_ g_b_] w') ?_ ?_
 ·replace hm := hz
  refine s_reg [] [0, 1, 5] [(0, [], .slice g_a_.a a_.length g_a_.c), (1, [], .slice g_b_.a b_.length g_b_.c), (5, [], .int .i64 0)] [] H4 (by kernel_rfl) trivial fun _ wd8 H9 hb => ?_
  clear H4
  replace hS := hS.below hb
  clear hb
  refine w_block ?_
  refine w_loop (fun kk a' w' => ∃ (v10 : Int), r29_Same_L1 m a_ b_ kk v10 = some _ ∧ Fr 27 [(0, [], .slice g_a_.a a_.length g_a_.c), (1, [], .slice g_b_.a b_.length g_b_.c), (5, [], .int .i64 v10)] a' ∧ SH M X w [Ent.im tyDeclared a_ g_a_, Ent.im tyDeclared b_ g_b_] w') ⟨_, 0, hm, FrG.keep (ks := [0, 1, 5]) H9 (by kernel_rfl), hS⟩ ?_
  clear hm H9 hS
  rintro kk _ wd24 ⟨v10, hm, H, hS⟩
  cases kk with
  | zero => exact noneE hm
  | succ kk =>
   rw [r29_Same_L1] at hm
   refine w_seq ?_
   refine s_reg [] [0, 1, 5, 14] [(0, [], .slice g_a_.a a_.length g_a_.c), (1, [], .slice g_b_.a b_.length g_b_.c), (5, [], .int .i64 v10), (14, [], .bool (decide (v10 < (ln a_))))] [] H (by kernel_rfl) trivial fun _ wd11 H12 hb => ?_
   clear H
   replace hS := hS.below hb
   clear hb
   refine w_if H12 rfl (fun hc => ?_) (fun hc => ?c23)
   case c23 =>
    replace hm := bF hc hm
    refine w_exit rfl ?_
    obtain rfl := someE hm
    exact ⟨_, rfl, FrG.keep (ks := []) H12 (by kernel_rfl), hS⟩
   replace hm := bT hc hm
   refine w_skip ?_
   refine w_seq ?_
   refine w_block ?_
   obtain ⟨ho13, hm⟩ := chkE hm
   obtain ⟨ho14, hm⟩ := chkE hm
   obtain ⟨y15, hy15, hm⟩ := bindE hm
   refine s_draw [(.agg ⟨[.string ⟨⟨(gi a_ v10).Long.Name⟩⟩, .slice (g_a_.s (v10).toNat 0).a (((gi a_ v10).Long.Value).length) (g_a_.s (v10).toNat 0).c, .string ⟨⟨(gi a_ v10).Long.Whole⟩⟩, .bool ((gi a_ v10).Important), .int .u8 ((gi a_ v10).Origin), .bool ((gi a_ v10).Attached), .int .i64 ((gi a_ v10).Layer), .int .i64 ((gi a_ v10).Weight.e0), .int .i64 ((gi a_ v10).Weight.e1), .int .i64 ((gi a_ v10).Weight.e2), .int .i64 ((gi a_ v10).Order)]⟩), (.agg ⟨[.string ⟨⟨(gi b_ v10).Long.Name⟩⟩, .slice (g_b_.s (v10).toNat 0).a (((gi b_ v10).Long.Value).length) (g_b_.s (v10).toNat 0).c, .string ⟨⟨(gi b_ v10).Long.Whole⟩⟩, .bool ((gi b_ v10).Important), .int .u8 ((gi b_ v10).Origin), .bool ((gi b_ v10).Attached), .int .i64 ((gi b_ v10).Layer), .int .i64 ((gi b_ v10).Weight.e0), .int .i64 ((gi b_ v10).Weight.e1), .int .i64 ((gi b_ v10).Weight.e2), .int .i64 ((gi b_ v10).Order)]⟩), (.bool y15)] [0, 1, 5, 26] [(0, [], .slice g_a_.a a_.length g_a_.c), (1, [], .slice g_b_.a b_.length g_b_.c), (5, [], .int .i64 v10), (26, [], .bool (!y15))] [fun _ => oka g_a_.a ∧ 0 ≤ v10 ∧ v10 < ln a_, fun wz => V.atN (ab g_a_.a) (ao g_a_.a + (v10).toNat * 11) [.string ⟨⟨(gi a_ v10).Long.Name⟩⟩, .slice (g_a_.s (v10).toNat 0).a (((gi a_ v10).Long.Value).length) (g_a_.s (v10).toNat 0).c, .string ⟨⟨(gi a_ v10).Long.Whole⟩⟩, .bool ((gi a_ v10).Important), .int .u8 ((gi a_ v10).Origin), .bool ((gi a_ v10).Attached), .int .i64 ((gi a_ v10).Layer), .int .i64 ((gi a_ v10).Weight.e0), .int .i64 ((gi a_ v10).Weight.e1), .int .i64 ((gi a_ v10).Weight.e2), .int .i64 ((gi a_ v10).Order)] 0 wz, fun _ => oka g_b_.a ∧ 0 ≤ v10 ∧ v10 < ln b_, fun wz => V.atN (ab g_b_.a) (ao g_b_.a + (v10).toNat * 11) [.string ⟨⟨(gi b_ v10).Long.Name⟩⟩, .slice (g_b_.s (v10).toNat 0).a (((gi b_ v10).Long.Value).length) (g_b_.s (v10).toNat 0).c, .string ⟨⟨(gi b_ v10).Long.Whole⟩⟩, .bool ((gi b_ v10).Important), .int .u8 ((gi b_ v10).Origin), .bool ((gi b_ v10).Attached), .int .i64 ((gi b_ v10).Layer), .int .i64 ((gi b_ v10).Weight.e0), .int .i64 ((gi b_ v10).Weight.e1), .int .i64 ((gi b_ v10).Weight.e2), .int .i64 ((gi b_ v10).Order)] 0 wz, fun wz => RetB Tryd.prog 19 ⟨[.agg ⟨[.string ⟨⟨(gi a_ v10).Long.Name⟩⟩, .slice (g_a_.s (v10).toNat 0).a (((gi a_ v10).Long.Value).length) (g_a_.s (v10).toNat 0).c, .string ⟨⟨(gi a_ v10).Long.Whole⟩⟩, .bool ((gi a_ v10).Important), .int .u8 ((gi a_ v10).Origin), .bool ((gi a_ v10).Attached), .int .i64 ((gi a_ v10).Layer), .int .i64 ((gi a_ v10).Weight.e0), .int .i64 ((gi a_ v10).Weight.e1), .int .i64 ((gi a_ v10).Weight.e2), .int .i64 ((gi a_ v10).Order)]⟩, .agg ⟨[.string ⟨⟨(gi b_ v10).Long.Name⟩⟩, .slice (g_b_.s (v10).toNat 0).a (((gi b_ v10).Long.Value).length) (g_b_.s (v10).toNat 0).c, .string ⟨⟨(gi b_ v10).Long.Whole⟩⟩, .bool ((gi b_ v10).Important), .int .u8 ((gi b_ v10).Origin), .bool ((gi b_ v10).Attached), .int .i64 ((gi b_ v10).Layer), .int .i64 ((gi b_ v10).Weight.e0), .int .i64 ((gi b_ v10).Weight.e1), .int .i64 ((gi b_ v10).Weight.e2), .int .i64 ((gi b_ v10).Order)]⟩]⟩ (.bool y15) wz] H12 (by kernel_rfl) (by kernel_rfl) (by kernel_rfl) ⟨((hS.im 0 rfl).oki ho13), ((hS.im 0 rfl).atA ho13 0 rfl), ((hS.im 1 rfl).oki ho14), ((hS.im 1 rfl).atA ho14 0 rfl), (r29_SameOne_ok (g_a__0 := (g_a_.s (v10).toNat 0)) (g_b__0 := (g_b_.s (v10).toNat 0)) m _ _ _ hy15 _ (s0im (s0im s0nil (tyDeclared_i0 ((hS.im 1 rfl).el ho14))) (tyDeclared_i0 ((hS.im 0 rfl).el ho13)))), trivial⟩ fun _ wd16 H17 hb => ?_
   clear H12
   replace hS := hS.below hb
   clear hb
   refine w_if H17 rfl (fun hc => ?_) (fun hc => ?c22)
   case c22 =>
    replace hm := bF hc hm
    refine w_skip ?_
    refine w_reg [] [0, 1, 5] [(0, [], .slice g_a_.a a_.length g_a_.c), (1, [], .slice g_b_.a b_.length g_b_.c), (5, [], .int .i64 (w64 (v10 + 1)))] [] H17 (by kernel_rfl) trivial fun _ wd20 H21 hb => ?_
    clear H17
    replace hS := hS.below hb
    clear hb
    exact ⟨_, Nat.lt_succ_self _, w64 (v10 + 1), hm, FrG.keep (ks := [0, 1, 5]) H21 (by kernel_rfl), hS⟩
   replace hm := bT hc hm
   refine s_reg [] [4] [(4, [], .bool false)] [] H17 (by kernel_rfl) trivial fun _ wd18 H19 hb => ?_
   clear H17
   replace hS := hS.below hb
   clear hb
   refine w_ret ?_
   obtain rfl := someE hm
   have hm := hm_z7
   obtain rfl := someE hm
   exact retR1 H19 rfl rfl ⟨_, rfl, rfl, (hS.sel [] rfl)⟩
 ·rintro _ wd27 ⟨s_z7, hz, H, hS⟩
  subst hz
  replace hm := sumR hm_z7
  replace hS : SH M X w [] _ := hS.sel [] rfl
  refine s_reg [] [4] [(4, [], .bool true)] [] H (by kernel_rfl) trivial fun _ wd25 H26 hb => ?_
  clear H
  replace hS := hS.below hb
  clear hb
  refine w_ret ?_
  obtain rfl := someE hm
  exact retR1 H26 rfl rfl ⟨_, rfl, rfl, (hS.sel [] rfl)⟩
theorem r29_Same_ok {g_a_ : Gh} {g_b_ : Gh} (m : Nat) (a_ : List TDeclared) (b_ : List TDeclared) (r : Bool) (hm : r29_Same m a_ b_ = some r) (w : World) (hL : S0 F0 [Ent.im tyDeclared a_ g_a_, Ent.im tyDeclared b_ g_b_] w ∧ fpl [Ent.im tyDeclared a_ g_a_, Ent.im tyDeclared b_ g_b_] = []) : RetB Tryd.prog 11 ⟨[.slice g_a_.a a_.length g_a_.c, .slice g_b_.a b_.length g_b_.c]⟩ (.bool r) w := retB_of hL (Tryd.call11 _) (fun w' h => r29_Same_w F0 m   a_ b_ r hm w' h)

def law31_WideNames (m : Nat)  : Option (Bool) :=
  Option.bind (
  Option.bind (law31_one m [73, 78, 73, 84, 73, 65, 76]) fun y4 =>
  Option.bind (law31_says m y4 [99, 111, 108, 111, 114] (-1) [105, 110, 105, 116, 105, 97, 108]) fun y9 =>
  lt (y9) fun x10 =>
  cond x10 (
  Option.bind (law31_one m [105, 110, 104, 101, 114, 105, 116]) fun y13 =>
  Option.bind (law31_says m y13 [119, 105, 100, 116, 104] (-1) [105, 110, 104, 101, 114, 105, 116]) fun y18 =>
  lt (y18) fun x19 =>
  cond x19 (
  Option.bind (law31_one m [85, 110, 115, 101, 116]) fun y22 =>
  Option.bind (law31_says m y22 [99, 111, 108, 111, 114] (-1) [105, 110, 104, 101, 114, 105, 116]) fun y27 =>
  lt (y27) fun x28 =>
  cond x28 (
  Option.bind (law31_one m [117, 110, 115, 101, 116]) fun y31 =>
  Option.bind (law31_says m y31 [119, 105, 100, 116, 104] (-1) [105, 110, 105, 116, 105, 97, 108]) fun y36 =>
  lt (y36) fun x37 =>
  cond x37 (
  Option.bind (law31_one m [114, 101, 118, 101, 114, 116]) fun y40 =>
  Option.bind (law31_says m y40 [99, 111, 108, 111, 114] (-1) [105, 110, 104, 101, 114, 105, 116]) fun y45 =>
  lt (y45) fun x46 =>
  cond x46 (
  Option.bind (law31_one m [114, 101, 118, 101, 114, 116]) fun y49 =>
  Option.bind (law31_says m y49 [119, 105, 100, 116, 104] (-1) [105, 110, 105, 116, 105, 97, 108]) fun y54 =>
  lt (y54) fun x55 =>
  cond x55 (
  Option.bind (law31_one m [114, 101, 100]) fun y58 =>
  Option.bind (law31_says m y58 [99, 111, 108, 111, 114] 0 []) fun y63 =>
  lt (y63) fun x64 =>
  cond x64 (
  Option.bind (law31_one m [118, 97, 114, 40, 45, 45, 97, 41]) fun y67 =>
  Option.bind (law31_says m y67 [119, 105, 100, 116, 104] 1 []) fun y72 =>
  lt (y72) fun x73 =>
  cond x73 (
  Option.bind (law31_one m [117, 110, 115, 101, 116, 32, 117, 110, 115, 101, 116]) fun y76 =>
  Option.bind (law31_says m y76 [99, 111, 108, 111, 114] 0 []) fun y81 =>
  some y81) (
  some false)) (
  some false)) (
  some false)) (
  some false)) (
  some false)) (
  some false)) (
  some false)) (
  some false)) fun (z3 : Bool) =>
  Option.bind (law31_of m 1 [99, 111, 108, 111, 114] [114, 101, 118, 101, 114, 116]) fun y228 =>
  Option.bind (law31_of m 2 [99, 111, 108, 111, 114] [114, 101, 118, 101, 114, 116]) fun y242 =>
  Option.bind (law31_of m 1 [99, 111, 108, 111, 114] [108, 105, 109, 101]) fun y257 =>
  Option.bind (law31_of m 3 [99, 111, 108, 111, 114] [114, 101, 100]) fun y260 =>
  Option.bind (law31_of m 3 [109, 97, 114, 103, 105, 110, 45, 116, 111, 112] [114, 101, 118, 101, 114, 116]) fun y271 =>
  chk (ln ([] : List TDeclared) + ln ([y257, y260, (TDeclared.mk y242.Long true y242.Origin y242.Attached y242.Layer y242.Weight y242.Order)] : List TDeclared) ≤ 1099511627776) <|
  lt (([] : List TDeclared) ++ ([y257, y260, (TDeclared.mk y242.Long true y242.Origin y242.Attached y242.Layer y242.Weight y242.Order)] : List TDeclared)) fun q289 =>
  chk (ln q289 + ln ([(TDeclared.mk y228.Long true y228.Origin y228.Attached y228.Layer y228.Weight y228.Order)] : List TDeclared) ≤ 1099511627776) <|
  lt (q289 ++ ([(TDeclared.mk y228.Long true y228.Origin y228.Attached y228.Layer y228.Weight y228.Order)] : List TDeclared)) fun q294 =>
  Option.bind (law31_says m q294 [99, 111, 108, 111, 114] (-1) [105, 110, 104, 101, 114, 105, 116]) fun y296 =>
  chk (y296 = true) <|
  Option.bind (law31_says m ([y257, y260, (TDeclared.mk y242.Long true y242.Origin y242.Attached y242.Layer y242.Weight y242.Order)] : List TDeclared) [99, 111, 108, 111, 114] 0 []) fun y298 =>
  chk ((cond y296 y298 false) = true) <|
  Option.bind (law31_of m 2 [109, 97, 114, 103, 105, 110, 45, 116, 111, 112] [49, 112, 120]) fun y300 =>
  Option.bind (law31_says m ([y300, (TDeclared.mk (TLong.mk y271.Long.Name y271.Long.Value [109, 97, 114, 103, 105, 110]) y271.Important y271.Origin y271.Attached y271.Layer y271.Weight y271.Order)] : List TDeclared) [109, 97, 114, 103, 105, 110, 45, 116, 111, 112] 1 []) fun y305 =>
  chk ((cond (cond y296 y298 false) y305 false) = true) <|
  Option.bind (law31_of m 2 [45, 45, 97] [49]) fun y307 =>
  Option.bind (law31_of m 3 [45, 45, 97] [114, 101, 118, 101, 114, 116]) fun y310 =>
  Option.bind (law31_says m ([y307, y310] : List TDeclared) [45, 45, 97] 0 []) fun y315 =>
  lt (cond (cond (cond y296 y298 false) y305 false) y315 false) fun x316 =>
  chk (x316 = true) <|
  Option.bind (law31_of m 3 [45, 45, 97] [105, 110, 105, 116, 105, 97, 108]) fun y318 =>
  Option.bind (law31_says m ([y318] : List TDeclared) [45, 45, 97] (-1) [105, 110, 105, 116, 105, 97, 108]) fun y323 =>
  chk ((cond x316 y323 false) = true) <|
  Option.bind (law31_says m [] [45, 45, 98] (-1) [105, 110, 104, 101, 114, 105, 116]) fun y325 =>
  Option.bind (law31_of m 4 [99, 111, 108, 111, 114] [114, 101, 100]) fun y338 =>
  Option.bind (law31_of m 3 [99, 111, 108, 111, 114] [114, 101, 100]) fun y349 =>
  Option.bind (law31_of m 1 [99, 111, 108, 111, 114] [114, 101, 100]) fun y354 =>
  Option.bind (wide_Decide m ([y338] : List TDeclared) [120]) fun y365 =>
  Option.bind (wide_Decide m ([y349, y354] : List TDeclared) [120]) fun y368 =>
  Option.bind (wide_Decide m [] [109, 97, 114, 103, 105, 110]) fun y371 =>
  Option.bind (wide_Mean m ([y338] : List TDeclared) (-1) []) fun y374 =>
  Option.bind (wide_Mean m ([y257, y260, (TDeclared.mk y242.Long true y242.Origin y242.Attached y242.Layer y242.Weight y242.Order)] : List TDeclared) 3 [117, 110, 115, 101, 116]) fun y377 =>
  Option.bind (wide_Mean m ([y257, y260, (TDeclared.mk y242.Long true y242.Origin y242.Attached y242.Layer y242.Weight y242.Order)] : List TDeclared) (-1) [117, 110, 115, 101, 116]) fun y380 =>
  Option.bind (wide_Mean m ([y257, y260, (TDeclared.mk y242.Long true y242.Origin y242.Attached y242.Layer y242.Weight y242.Order)] : List TDeclared) 0 [85, 110, 115, 101, 116]) fun y383 =>
  Option.bind (wide_Mean m ([y257, y260, (TDeclared.mk y242.Long true y242.Origin y242.Attached y242.Layer y242.Weight y242.Order)] : List TDeclared) 1 [114, 101, 118, 101, 114, 116]) fun y386 =>
  Option.bind (wide_Mean m ([y257, y260, (TDeclared.mk y242.Long true y242.Origin y242.Attached y242.Layer y242.Weight y242.Order)] : List TDeclared) 0 [114, 101, 118, 101, 114, 116]) fun y389 =>
  Option.bind (wide_Lesser m ([y338] : List TDeclared) 0) fun y394 =>
  Option.bind (wide_Lesser m ([y257, y260, (TDeclared.mk y242.Long true y242.Origin y242.Attached y242.Layer y242.Weight y242.Order)] : List TDeclared) 0) fun y403 =>
  Option.bind (wide_Lesser m ([y257, y260, (TDeclared.mk y242.Long true y242.Origin y242.Attached y242.Layer y242.Weight y242.Order)] : List TDeclared) 4) fun y412 =>
  Option.bind (wide_Lesser m ([y257, y260, (TDeclared.mk y242.Long true y242.Origin y242.Attached y242.Layer y242.Weight y242.Order)] : List TDeclared) 2) fun y421 =>
  Option.bind (
  Option.bind (law31_alive m) fun y429 =>
  lt (cond (cond y429 z3 false) (cond (cond x316 y323 false) y325 false) false) fun x430 =>
  lt (cond (cond x430 (y365.2.2 == 8) false) (y368.2.2 == 2) false) fun x431 =>
  lt (cond (cond x431 (y371.2.2 == 6) false) (y374.2.2 == 8) false) fun x432 =>
  lt (cond (cond x432 (y377.2.2 == 2) false) (y380.2.2 == 2) false) fun x433 =>
  lt (cond (cond x433 (y383.2.2 == 2) false) (y386.2.2 == 0) false) fun x434 =>
  lt (cond (cond x434 (y386.1 == 0) false) (y386.2.1 == []) false) fun x435 =>
  lt (cond (cond x435 (y389.2.2 == 0) false) (y389.1 == (-1)) false) fun x436 =>
  lt (cond x436 (y389.2.1 == [105, 110, 104, 101, 114, 105, 116]) false) fun x437 =>
  lt (cond (cond x437 (y394.2 == 8) false) (y403.2 == 2) false) fun x438 =>
  lt (cond (cond x438 (y412.2 == 2) false) (y421.2 == 0) false) fun x439 =>
  lt (x439) fun x440 =>
  cond x440 (
  chk (0 ≤ (0 : Int) ∧ (0 : Int) ≤ (1 : Int) ∧ (1 : Int) ≤ ln ([y257, y260, (TDeclared.mk y242.Long true y242.Origin y242.Attached y242.Layer y242.Weight y242.Order)] : List TDeclared)) <|
  lt (subl ([y257, y260, (TDeclared.mk y242.Long true y242.Origin y242.Attached y242.Layer y242.Weight y242.Order)] : List TDeclared) (0 : Int) (1 : Int)) fun q446 =>
  Option.bind (r29_Same m y421.1 q446) fun y451 =>
  some y451) (
  some false)) fun (z428 : Bool) =>
  some z428
theorem law31_WideNames_w  (M : Av) (m : Nat)  (r : Bool) (hm : law31_WideNames m = some r) (w : World) (hS : S0 M [gE0] w) : Calls Tryd.prog 3 ⟨[]⟩ w (fun e w' => ∃ v, e = .returned v ∧ v = .bool r ∧ SH M (fpl [gE0]) w [] w') := by
 rw [law31_WideNames] at hm
 have hS0 : SH M (fpl [gE0]) w [gE0] w := hS
 generalize hX : fpl [gE0] = X at hS0 ⊢
 clear hS hX
 have hS := hS0
 clear hS0
 refine calls_entryP Tryd.func3 rfl Tryd.ntmps3 rfl fun _ H => ?_
 refine s_reg [] [] [] [] H (by kernel_rfl) trivial fun _ wd1 H2 hb => ?_
 clear H
 replace hS := hS.below hb
 clear hb
 obtain ⟨z3, hz, hm⟩ := bindE hm
 refine w_cut (fun a' w' => Fr 279 [(1, [], .bool z3)] a' ∧ SH M X w [gE0] w') ?_ ?_
 ·replace hm := hz
  refine wl_start ?_
  obtain ⟨y4, hy4, hm⟩ := bindE hm
  have hd := hS.hand [] [0] rfl rfl
  refine m_stp [44] [] H2 rfl rfl rfl rfl (o_callx H2 rfl rfl (law31_one_ok m _ _ hy4 _ _ hd)) (fun _ => rfl) fun _ wd7 v H8 hq => ?_
  clear H2 hd
  obtain ⟨g5, rfl, hq⟩ := hq
  replace hS : SH M X w [Ent.own 31 tyDeclared y4 g5, gE0] _ := hS.join [] [0] rfl rfl hq
  clear hq
  obtain ⟨y9, hy9, hm⟩ := bindE hm
  obtain ⟨x10, hx10, hm⟩ := letE hm
  refine wl_batch 1 3 [(.bool y9)] [46] [(46, [], .bool x10)] [fun wz => RetB Tryd.prog 4 ⟨[.slice g5.a y4.length g5.c, .string ⟨⟨[99, 111, 108, 111, 114]⟩⟩, .int .i64 (-1), .string ⟨⟨[105, 110, 105, 116, 105, 97, 108]⟩⟩]⟩ (.bool y9) wz] H8 (by decide) (by subst hx10; kernel_rfl) ⟨(law31_says_ok (g_l_ := g5) m _ _ _ _ _ hy9 _ (s0im (s0im s0nil (hS.im 1 rfl)) (hS.osl 0 rfl))), trivial⟩ fun _ wd11 H12 hb => ?_
  clear H8
  replace hS := hS.below hb
  clear hb
  cases x10
  case false =>
   replace hm := bF rfl hm
   refine m_skipG 46 [47, 46] [(47, [], undef), (46, [], .bool false)] H12 rfl rfl rfl rfl rfl rfl fun _ H196 => ?_
   clear H12
   refine m_skipG 46 [48, 46] [(48, [], undef), (46, [], .bool false)] H196 rfl rfl rfl rfl rfl rfl fun _ H197 => ?_
   clear H196
   refine wl_batch 5 7 [] [50] [(50, [], .bool false)] [] H197 (by decide) (by kernel_rfl) trivial fun _ wd198 H199 hb => ?_
   clear H197
   replace hS := hS.below hb
   clear hb
   refine m_skipG 50 [51, 50] [(51, [], undef), (50, [], .bool false)] H199 rfl rfl rfl rfl rfl rfl fun _ H200 => ?_
   clear H199
   refine m_skipG 50 [52, 50] [(52, [], undef), (50, [], .bool false)] H200 rfl rfl rfl rfl rfl rfl fun _ H201 => ?_
   clear H200
   refine wl_batch 9 11 [] [54] [(54, [], .bool false)] [] H201 (by decide) (by kernel_rfl) trivial fun _ wd202 H203 hb => ?_
   clear H201
   replace hS := hS.below hb
   clear hb
   refine m_skipG 54 [55, 54] [(55, [], undef), (54, [], .bool false)] H203 rfl rfl rfl rfl rfl rfl fun _ H204 => ?_
   clear H203
   refine m_skipG 54 [56, 54] [(56, [], undef), (54, [], .bool false)] H204 rfl rfl rfl rfl rfl rfl fun _ H205 => ?_
   clear H204
   refine wl_batch 13 15 [] [58] [(58, [], .bool false)] [] H205 (by decide) (by kernel_rfl) trivial fun _ wd206 H207 hb => ?_
   clear H205
   replace hS := hS.below hb
   clear hb
   refine m_skipG 58 [59, 58] [(59, [], undef), (58, [], .bool false)] H207 rfl rfl rfl rfl rfl rfl fun _ H208 => ?_
   clear H207
   refine m_skipG 58 [60, 58] [(60, [], undef), (58, [], .bool false)] H208 rfl rfl rfl rfl rfl rfl fun _ H209 => ?_
   clear H208
   refine wl_batch 17 19 [] [62] [(62, [], .bool false)] [] H209 (by decide) (by kernel_rfl) trivial fun _ wd210 H211 hb => ?_
   clear H209
   replace hS := hS.below hb
   clear hb
   refine m_skipG 62 [63, 62] [(63, [], undef), (62, [], .bool false)] H211 rfl rfl rfl rfl rfl rfl fun _ H212 => ?_
   clear H211
   refine m_skipG 62 [64, 62] [(64, [], undef), (62, [], .bool false)] H212 rfl rfl rfl rfl rfl rfl fun _ H213 => ?_
   clear H212
   refine wl_batch 21 23 [] [66] [(66, [], .bool false)] [] H213 (by decide) (by kernel_rfl) trivial fun _ wd214 H215 hb => ?_
   clear H213
   replace hS := hS.below hb
   clear hb
   refine m_skipG 66 [67, 66] [(67, [], undef), (66, [], .bool false)] H215 rfl rfl rfl rfl rfl rfl fun _ H216 => ?_
   clear H215
   refine m_skipG 66 [68, 66] [(68, [], undef), (66, [], .bool false)] H216 rfl rfl rfl rfl rfl rfl fun _ H217 => ?_
   clear H216
   refine wl_batch 25 27 [] [70] [(70, [], .bool false)] [] H217 (by decide) (by kernel_rfl) trivial fun _ wd218 H219 hb => ?_
   clear H217
   replace hS := hS.below hb
   clear hb
   refine m_skipG 70 [71, 70] [(71, [], undef), (70, [], .bool false)] H219 rfl rfl rfl rfl rfl rfl fun _ H220 => ?_
   clear H219
   refine m_skipG 70 [72, 70] [(72, [], undef), (70, [], .bool false)] H220 rfl rfl rfl rfl rfl rfl fun _ H221 => ?_
   clear H220
   refine wl_batch 29 31 [] [74] [(74, [], .bool false)] [] H221 (by decide) (by kernel_rfl) trivial fun _ wd222 H223 hb => ?_
   clear H221
   replace hS := hS.below hb
   clear hb
   refine m_skipG 74 [75, 74] [(75, [], undef), (74, [], .bool false)] H223 rfl rfl rfl rfl rfl rfl fun _ H224 => ?_
   clear H223
   refine m_skipG 74 [76, 74] [(76, [], undef), (74, [], .bool false)] H224 rfl rfl rfl rfl rfl rfl fun _ H225 => ?_
   clear H224
   refine wl_batch 33 35 [] [1] [(1, [], .bool false)] [] H225 (by decide) (by kernel_rfl) trivial fun _ wd226 H227 hb => ?_
   clear H225
   replace hS := hS.below hb
   clear hb
   refine wl_end rfl ?_
   replace hS : SH M X w [gE0] _ := hS.sel [1] rfl
   obtain rfl := someE hm
   exact ⟨FrG.keep (ks := [1]) H227 (by kernel_rfl), hS⟩
  replace hm := bT rfl hm
  obtain ⟨y13, hy13, hm⟩ := bindE hm
  have hd := hS.hand [] [0, 1] rfl rfl
  refine m_stpG 46 [47, 46] [(46, [], .bool true)] H12 rfl rfl rfl rfl (o_callx H12 rfl rfl (law31_one_ok m _ _ hy13 _ _ hd)) (fun _ => rfl) fun _ wd16 v H17 hq => ?_
  clear H12 hd
  obtain ⟨g14, rfl, hq⟩ := hq
  replace hS : SH M X w [Ent.own 31 tyDeclared y13 g14, Ent.own 31 tyDeclared y4 g5, gE0] _ := hS.join [] [0, 1] rfl rfl hq
  clear hq
  obtain ⟨y18, hy18, hm⟩ := bindE hm
  obtain ⟨x19, hx19, hm⟩ := letE hm
  refine wl_batch 4 7 [(.bool y18)] [50] [(50, [], .bool x19)] [fun wz => (true = true ∧ True → RetB Tryd.prog 4 ⟨[.slice g14.a y13.length g14.c, .string ⟨⟨[119, 105, 100, 116, 104]⟩⟩, .int .i64 (-1), .string ⟨⟨[105, 110, 104, 101, 114, 105, 116]⟩⟩]⟩ (.bool y18) wz)] H17 (by decide) (by subst hx19; kernel_rfl) ⟨fun hg => law31_says_ok (g_l_ := g14) m _ _ _ _ _ hy18 _ (s0im (s0im s0nil (hS.im 2 rfl)) (hS.osl 0 rfl)), trivial⟩ fun _ wd20 H21 hb => ?_
  clear H17
  replace hS := hS.below hb
  clear hb
  cases x19
  case false =>
   replace hm := bF rfl hm
   refine m_skipG 50 [51, 50] [(51, [], undef), (50, [], .bool false)] H21 rfl rfl rfl rfl rfl rfl fun _ H168 => ?_
   clear H21
   refine m_skipG 50 [52, 50] [(52, [], undef), (50, [], .bool false)] H168 rfl rfl rfl rfl rfl rfl fun _ H169 => ?_
   clear H168
   refine wl_batch 9 11 [] [54] [(54, [], .bool false)] [] H169 (by decide) (by kernel_rfl) trivial fun _ wd170 H171 hb => ?_
   clear H169
   replace hS := hS.below hb
   clear hb
   refine m_skipG 54 [55, 54] [(55, [], undef), (54, [], .bool false)] H171 rfl rfl rfl rfl rfl rfl fun _ H172 => ?_
   clear H171
   refine m_skipG 54 [56, 54] [(56, [], undef), (54, [], .bool false)] H172 rfl rfl rfl rfl rfl rfl fun _ H173 => ?_
   clear H172
   refine wl_batch 13 15 [] [58] [(58, [], .bool false)] [] H173 (by decide) (by kernel_rfl) trivial fun _ wd174 H175 hb => ?_
   clear H173
   replace hS := hS.below hb
   clear hb
   refine m_skipG 58 [59, 58] [(59, [], undef), (58, [], .bool false)] H175 rfl rfl rfl rfl rfl rfl fun _ H176 => ?_
   clear H175
   refine m_skipG 58 [60, 58] [(60, [], undef), (58, [], .bool false)] H176 rfl rfl rfl rfl rfl rfl fun _ H177 => ?_
   clear H176
   refine wl_batch 17 19 [] [62] [(62, [], .bool false)] [] H177 (by decide) (by kernel_rfl) trivial fun _ wd178 H179 hb => ?_
   clear H177
   replace hS := hS.below hb
   clear hb
   refine m_skipG 62 [63, 62] [(63, [], undef), (62, [], .bool false)] H179 rfl rfl rfl rfl rfl rfl fun _ H180 => ?_
   clear H179
   refine m_skipG 62 [64, 62] [(64, [], undef), (62, [], .bool false)] H180 rfl rfl rfl rfl rfl rfl fun _ H181 => ?_
   clear H180
   refine wl_batch 21 23 [] [66] [(66, [], .bool false)] [] H181 (by decide) (by kernel_rfl) trivial fun _ wd182 H183 hb => ?_
   clear H181
   replace hS := hS.below hb
   clear hb
   refine m_skipG 66 [67, 66] [(67, [], undef), (66, [], .bool false)] H183 rfl rfl rfl rfl rfl rfl fun _ H184 => ?_
   clear H183
   refine m_skipG 66 [68, 66] [(68, [], undef), (66, [], .bool false)] H184 rfl rfl rfl rfl rfl rfl fun _ H185 => ?_
   clear H184
   refine wl_batch 25 27 [] [70] [(70, [], .bool false)] [] H185 (by decide) (by kernel_rfl) trivial fun _ wd186 H187 hb => ?_
   clear H185
   replace hS := hS.below hb
   clear hb
   refine m_skipG 70 [71, 70] [(71, [], undef), (70, [], .bool false)] H187 rfl rfl rfl rfl rfl rfl fun _ H188 => ?_
   clear H187
   refine m_skipG 70 [72, 70] [(72, [], undef), (70, [], .bool false)] H188 rfl rfl rfl rfl rfl rfl fun _ H189 => ?_
   clear H188
   refine wl_batch 29 31 [] [74] [(74, [], .bool false)] [] H189 (by decide) (by kernel_rfl) trivial fun _ wd190 H191 hb => ?_
   clear H189
   replace hS := hS.below hb
   clear hb
   refine m_skipG 74 [75, 74] [(75, [], undef), (74, [], .bool false)] H191 rfl rfl rfl rfl rfl rfl fun _ H192 => ?_
   clear H191
   refine m_skipG 74 [76, 74] [(76, [], undef), (74, [], .bool false)] H192 rfl rfl rfl rfl rfl rfl fun _ H193 => ?_
   clear H192
   refine wl_batch 33 35 [] [1] [(1, [], .bool false)] [] H193 (by decide) (by kernel_rfl) trivial fun _ wd194 H195 hb => ?_
   clear H193
   replace hS := hS.below hb
   clear hb
   refine wl_end rfl ?_
   replace hS : SH M X w [gE0] _ := hS.sel [2] rfl
   obtain rfl := someE hm
   exact ⟨FrG.keep (ks := [1]) H195 (by kernel_rfl), hS⟩
  replace hm := bT rfl hm
  obtain ⟨y22, hy22, hm⟩ := bindE hm
  have hd := hS.hand [] [0, 1, 2] rfl rfl
  refine m_stpG 50 [51, 50] [(50, [], .bool true)] H21 rfl rfl rfl rfl (o_callx H21 rfl rfl (law31_one_ok m _ _ hy22 _ _ hd)) (fun _ => rfl) fun _ wd25 v H26 hq => ?_
  clear H21 hd
  obtain ⟨g23, rfl, hq⟩ := hq
  replace hS : SH M X w [Ent.own 31 tyDeclared y22 g23, Ent.own 31 tyDeclared y13 g14, Ent.own 31 tyDeclared y4 g5, gE0] _ := hS.join [] [0, 1, 2] rfl rfl hq
  clear hq
  obtain ⟨y27, hy27, hm⟩ := bindE hm
  obtain ⟨x28, hx28, hm⟩ := letE hm
  refine wl_batch 8 11 [(.bool y27)] [54] [(54, [], .bool x28)] [fun wz => (true = true ∧ True → RetB Tryd.prog 4 ⟨[.slice g23.a y22.length g23.c, .string ⟨⟨[99, 111, 108, 111, 114]⟩⟩, .int .i64 (-1), .string ⟨⟨[105, 110, 104, 101, 114, 105, 116]⟩⟩]⟩ (.bool y27) wz)] H26 (by decide) (by subst hx28; kernel_rfl) ⟨fun hg => law31_says_ok (g_l_ := g23) m _ _ _ _ _ hy27 _ (s0im (s0im s0nil (hS.im 3 rfl)) (hS.osl 0 rfl)), trivial⟩ fun _ wd29 H30 hb => ?_
  clear H26
  replace hS := hS.below hb
  clear hb
  cases x28
  case false =>
   replace hm := bF rfl hm
   refine m_skipG 54 [55, 54] [(55, [], undef), (54, [], .bool false)] H30 rfl rfl rfl rfl rfl rfl fun _ H144 => ?_
   clear H30
   refine m_skipG 54 [56, 54] [(56, [], undef), (54, [], .bool false)] H144 rfl rfl rfl rfl rfl rfl fun _ H145 => ?_
   clear H144
   refine wl_batch 13 15 [] [58] [(58, [], .bool false)] [] H145 (by decide) (by kernel_rfl) trivial fun _ wd146 H147 hb => ?_
   clear H145
   replace hS := hS.below hb
   clear hb
   refine m_skipG 58 [59, 58] [(59, [], undef), (58, [], .bool false)] H147 rfl rfl rfl rfl rfl rfl fun _ H148 => ?_
   clear H147
   refine m_skipG 58 [60, 58] [(60, [], undef), (58, [], .bool false)] H148 rfl rfl rfl rfl rfl rfl fun _ H149 => ?_
   clear H148
   refine wl_batch 17 19 [] [62] [(62, [], .bool false)] [] H149 (by decide) (by kernel_rfl) trivial fun _ wd150 H151 hb => ?_
   clear H149
   replace hS := hS.below hb
   clear hb
   refine m_skipG 62 [63, 62] [(63, [], undef), (62, [], .bool false)] H151 rfl rfl rfl rfl rfl rfl fun _ H152 => ?_
   clear H151
   refine m_skipG 62 [64, 62] [(64, [], undef), (62, [], .bool false)] H152 rfl rfl rfl rfl rfl rfl fun _ H153 => ?_
   clear H152
   refine wl_batch 21 23 [] [66] [(66, [], .bool false)] [] H153 (by decide) (by kernel_rfl) trivial fun _ wd154 H155 hb => ?_
   clear H153
   replace hS := hS.below hb
   clear hb
   refine m_skipG 66 [67, 66] [(67, [], undef), (66, [], .bool false)] H155 rfl rfl rfl rfl rfl rfl fun _ H156 => ?_
   clear H155
   refine m_skipG 66 [68, 66] [(68, [], undef), (66, [], .bool false)] H156 rfl rfl rfl rfl rfl rfl fun _ H157 => ?_
   clear H156
   refine wl_batch 25 27 [] [70] [(70, [], .bool false)] [] H157 (by decide) (by kernel_rfl) trivial fun _ wd158 H159 hb => ?_
   clear H157
   replace hS := hS.below hb
   clear hb
   refine m_skipG 70 [71, 70] [(71, [], undef), (70, [], .bool false)] H159 rfl rfl rfl rfl rfl rfl fun _ H160 => ?_
   clear H159
   refine m_skipG 70 [72, 70] [(72, [], undef), (70, [], .bool false)] H160 rfl rfl rfl rfl rfl rfl fun _ H161 => ?_
   clear H160
   refine wl_batch 29 31 [] [74] [(74, [], .bool false)] [] H161 (by decide) (by kernel_rfl) trivial fun _ wd162 H163 hb => ?_
   clear H161
   replace hS := hS.below hb
   clear hb
   refine m_skipG 74 [75, 74] [(75, [], undef), (74, [], .bool false)] H163 rfl rfl rfl rfl rfl rfl fun _ H164 => ?_
   clear H163
   refine m_skipG 74 [76, 74] [(76, [], undef), (74, [], .bool false)] H164 rfl rfl rfl rfl rfl rfl fun _ H165 => ?_
   clear H164
   refine wl_batch 33 35 [] [1] [(1, [], .bool false)] [] H165 (by decide) (by kernel_rfl) trivial fun _ wd166 H167 hb => ?_
   clear H165
   replace hS := hS.below hb
   clear hb
   refine wl_end rfl ?_
   replace hS : SH M X w [gE0] _ := hS.sel [3] rfl
   obtain rfl := someE hm
   exact ⟨FrG.keep (ks := [1]) H167 (by kernel_rfl), hS⟩
  replace hm := bT rfl hm
  obtain ⟨y31, hy31, hm⟩ := bindE hm
  have hd := hS.hand [] [0, 1, 2, 3] rfl rfl
  refine m_stpG 54 [55, 54] [(54, [], .bool true)] H30 rfl rfl rfl rfl (o_callx H30 rfl rfl (law31_one_ok m _ _ hy31 _ _ hd)) (fun _ => rfl) fun _ wd34 v H35 hq => ?_
  clear H30 hd
  obtain ⟨g32, rfl, hq⟩ := hq
  replace hS : SH M X w [Ent.own 31 tyDeclared y31 g32, Ent.own 31 tyDeclared y22 g23, Ent.own 31 tyDeclared y13 g14, Ent.own 31 tyDeclared y4 g5, gE0] _ := hS.join [] [0, 1, 2, 3] rfl rfl hq
  clear hq
  obtain ⟨y36, hy36, hm⟩ := bindE hm
  obtain ⟨x37, hx37, hm⟩ := letE hm
  refine wl_batch 12 15 [(.bool y36)] [58] [(58, [], .bool x37)] [fun wz => (true = true ∧ True → RetB Tryd.prog 4 ⟨[.slice g32.a y31.length g32.c, .string ⟨⟨[119, 105, 100, 116, 104]⟩⟩, .int .i64 (-1), .string ⟨⟨[105, 110, 105, 116, 105, 97, 108]⟩⟩]⟩ (.bool y36) wz)] H35 (by decide) (by subst hx37; kernel_rfl) ⟨fun hg => law31_says_ok (g_l_ := g32) m _ _ _ _ _ hy36 _ (s0im (s0im s0nil (hS.im 4 rfl)) (hS.osl 0 rfl)), trivial⟩ fun _ wd38 H39 hb => ?_
  clear H35
  replace hS := hS.below hb
  clear hb
  cases x37
  case false =>
   replace hm := bF rfl hm
   refine m_skipG 58 [59, 58] [(59, [], undef), (58, [], .bool false)] H39 rfl rfl rfl rfl rfl rfl fun _ H124 => ?_
   clear H39
   refine m_skipG 58 [60, 58] [(60, [], undef), (58, [], .bool false)] H124 rfl rfl rfl rfl rfl rfl fun _ H125 => ?_
   clear H124
   refine wl_batch 17 19 [] [62] [(62, [], .bool false)] [] H125 (by decide) (by kernel_rfl) trivial fun _ wd126 H127 hb => ?_
   clear H125
   replace hS := hS.below hb
   clear hb
   refine m_skipG 62 [63, 62] [(63, [], undef), (62, [], .bool false)] H127 rfl rfl rfl rfl rfl rfl fun _ H128 => ?_
   clear H127
   refine m_skipG 62 [64, 62] [(64, [], undef), (62, [], .bool false)] H128 rfl rfl rfl rfl rfl rfl fun _ H129 => ?_
   clear H128
   refine wl_batch 21 23 [] [66] [(66, [], .bool false)] [] H129 (by decide) (by kernel_rfl) trivial fun _ wd130 H131 hb => ?_
   clear H129
   replace hS := hS.below hb
   clear hb
   refine m_skipG 66 [67, 66] [(67, [], undef), (66, [], .bool false)] H131 rfl rfl rfl rfl rfl rfl fun _ H132 => ?_
   clear H131
   refine m_skipG 66 [68, 66] [(68, [], undef), (66, [], .bool false)] H132 rfl rfl rfl rfl rfl rfl fun _ H133 => ?_
   clear H132
   refine wl_batch 25 27 [] [70] [(70, [], .bool false)] [] H133 (by decide) (by kernel_rfl) trivial fun _ wd134 H135 hb => ?_
   clear H133
   replace hS := hS.below hb
   clear hb
   refine m_skipG 70 [71, 70] [(71, [], undef), (70, [], .bool false)] H135 rfl rfl rfl rfl rfl rfl fun _ H136 => ?_
   clear H135
   refine m_skipG 70 [72, 70] [(72, [], undef), (70, [], .bool false)] H136 rfl rfl rfl rfl rfl rfl fun _ H137 => ?_
   clear H136
   refine wl_batch 29 31 [] [74] [(74, [], .bool false)] [] H137 (by decide) (by kernel_rfl) trivial fun _ wd138 H139 hb => ?_
   clear H137
   replace hS := hS.below hb
   clear hb
   refine m_skipG 74 [75, 74] [(75, [], undef), (74, [], .bool false)] H139 rfl rfl rfl rfl rfl rfl fun _ H140 => ?_
   clear H139
   refine m_skipG 74 [76, 74] [(76, [], undef), (74, [], .bool false)] H140 rfl rfl rfl rfl rfl rfl fun _ H141 => ?_
   clear H140
   refine wl_batch 33 35 [] [1] [(1, [], .bool false)] [] H141 (by decide) (by kernel_rfl) trivial fun _ wd142 H143 hb => ?_
   clear H141
   replace hS := hS.below hb
   clear hb
   refine wl_end rfl ?_
   replace hS : SH M X w [gE0] _ := hS.sel [4] rfl
   obtain rfl := someE hm
   exact ⟨FrG.keep (ks := [1]) H143 (by kernel_rfl), hS⟩
  replace hm := bT rfl hm
  obtain ⟨y40, hy40, hm⟩ := bindE hm
  have hd := hS.hand [] [0, 1, 2, 3, 4] rfl rfl
  refine m_stpG 58 [59, 58] [(58, [], .bool true)] H39 rfl rfl rfl rfl (o_callx H39 rfl rfl (law31_one_ok m _ _ hy40 _ _ hd)) (fun _ => rfl) fun _ wd43 v H44 hq => ?_
  clear H39 hd
  obtain ⟨g41, rfl, hq⟩ := hq
  replace hS : SH M X w [Ent.own 31 tyDeclared y40 g41, Ent.own 31 tyDeclared y31 g32, Ent.own 31 tyDeclared y22 g23, Ent.own 31 tyDeclared y13 g14, Ent.own 31 tyDeclared y4 g5, gE0] _ := hS.join [] [0, 1, 2, 3, 4] rfl rfl hq
  clear hq
  obtain ⟨y45, hy45, hm⟩ := bindE hm
  obtain ⟨x46, hx46, hm⟩ := letE hm
  refine wl_batch 16 19 [(.bool y45)] [62] [(62, [], .bool x46)] [fun wz => (true = true ∧ True → RetB Tryd.prog 4 ⟨[.slice g41.a y40.length g41.c, .string ⟨⟨[99, 111, 108, 111, 114]⟩⟩, .int .i64 (-1), .string ⟨⟨[105, 110, 104, 101, 114, 105, 116]⟩⟩]⟩ (.bool y45) wz)] H44 (by decide) (by subst hx46; kernel_rfl) ⟨fun hg => law31_says_ok (g_l_ := g41) m _ _ _ _ _ hy45 _ (s0im (s0im s0nil (hS.im 5 rfl)) (hS.osl 0 rfl)), trivial⟩ fun _ wd47 H48 hb => ?_
  clear H44
  replace hS := hS.below hb
  clear hb
  cases x46
  case false =>
   replace hm := bF rfl hm
   refine m_skipG 62 [63, 62] [(63, [], undef), (62, [], .bool false)] H48 rfl rfl rfl rfl rfl rfl fun _ H108 => ?_
   clear H48
   refine m_skipG 62 [64, 62] [(64, [], undef), (62, [], .bool false)] H108 rfl rfl rfl rfl rfl rfl fun _ H109 => ?_
   clear H108
   refine wl_batch 21 23 [] [66] [(66, [], .bool false)] [] H109 (by decide) (by kernel_rfl) trivial fun _ wd110 H111 hb => ?_
   clear H109
   replace hS := hS.below hb
   clear hb
   refine m_skipG 66 [67, 66] [(67, [], undef), (66, [], .bool false)] H111 rfl rfl rfl rfl rfl rfl fun _ H112 => ?_
   clear H111
   refine m_skipG 66 [68, 66] [(68, [], undef), (66, [], .bool false)] H112 rfl rfl rfl rfl rfl rfl fun _ H113 => ?_
   clear H112
   refine wl_batch 25 27 [] [70] [(70, [], .bool false)] [] H113 (by decide) (by kernel_rfl) trivial fun _ wd114 H115 hb => ?_
   clear H113
   replace hS := hS.below hb
   clear hb
   refine m_skipG 70 [71, 70] [(71, [], undef), (70, [], .bool false)] H115 rfl rfl rfl rfl rfl rfl fun _ H116 => ?_
   clear H115
   refine m_skipG 70 [72, 70] [(72, [], undef), (70, [], .bool false)] H116 rfl rfl rfl rfl rfl rfl fun _ H117 => ?_
   clear H116
   refine wl_batch 29 31 [] [74] [(74, [], .bool false)] [] H117 (by decide) (by kernel_rfl) trivial fun _ wd118 H119 hb => ?_
   clear H117
   replace hS := hS.below hb
   clear hb
   refine m_skipG 74 [75, 74] [(75, [], undef), (74, [], .bool false)] H119 rfl rfl rfl rfl rfl rfl fun _ H120 => ?_
   clear H119
   refine m_skipG 74 [76, 74] [(76, [], undef), (74, [], .bool false)] H120 rfl rfl rfl rfl rfl rfl fun _ H121 => ?_
   clear H120
   refine wl_batch 33 35 [] [1] [(1, [], .bool false)] [] H121 (by decide) (by kernel_rfl) trivial fun _ wd122 H123 hb => ?_
   clear H121
   replace hS := hS.below hb
   clear hb
   refine wl_end rfl ?_
   replace hS : SH M X w [gE0] _ := hS.sel [5] rfl
   obtain rfl := someE hm
   exact ⟨FrG.keep (ks := [1]) H123 (by kernel_rfl), hS⟩
  replace hm := bT rfl hm
  obtain ⟨y49, hy49, hm⟩ := bindE hm
  have hd := hS.hand [] [0, 1, 2, 3, 4, 5] rfl rfl
  refine m_stpG 62 [63, 62] [(62, [], .bool true)] H48 rfl rfl rfl rfl (o_callx H48 rfl rfl (law31_one_ok m _ _ hy49 _ _ hd)) (fun _ => rfl) fun _ wd52 v H53 hq => ?_
  clear H48 hd
  obtain ⟨g50, rfl, hq⟩ := hq
  replace hS : SH M X w [Ent.own 31 tyDeclared y49 g50, Ent.own 31 tyDeclared y40 g41, Ent.own 31 tyDeclared y31 g32, Ent.own 31 tyDeclared y22 g23, Ent.own 31 tyDeclared y13 g14, Ent.own 31 tyDeclared y4 g5, gE0] _ := hS.join [] [0, 1, 2, 3, 4, 5] rfl rfl hq
  clear hq
  obtain ⟨y54, hy54, hm⟩ := bindE hm
  obtain ⟨x55, hx55, hm⟩ := letE hm
  refine wl_batch 20 23 [(.bool y54)] [66] [(66, [], .bool x55)] [fun wz => (true = true ∧ True → RetB Tryd.prog 4 ⟨[.slice g50.a y49.length g50.c, .string ⟨⟨[119, 105, 100, 116, 104]⟩⟩, .int .i64 (-1), .string ⟨⟨[105, 110, 105, 116, 105, 97, 108]⟩⟩]⟩ (.bool y54) wz)] H53 (by decide) (by subst hx55; kernel_rfl) ⟨fun hg => law31_says_ok (g_l_ := g50) m _ _ _ _ _ hy54 _ (s0im (s0im s0nil (hS.im 6 rfl)) (hS.osl 0 rfl)), trivial⟩ fun _ wd56 H57 hb => ?_
  clear H53
  replace hS := hS.below hb
  clear hb
  cases x55
  case false =>
   replace hm := bF rfl hm
   refine m_skipG 66 [67, 66] [(67, [], undef), (66, [], .bool false)] H57 rfl rfl rfl rfl rfl rfl fun _ H96 => ?_
   clear H57
   refine m_skipG 66 [68, 66] [(68, [], undef), (66, [], .bool false)] H96 rfl rfl rfl rfl rfl rfl fun _ H97 => ?_
   clear H96
   refine wl_batch 25 27 [] [70] [(70, [], .bool false)] [] H97 (by decide) (by kernel_rfl) trivial fun _ wd98 H99 hb => ?_
   clear H97
   replace hS := hS.below hb
   clear hb
   refine m_skipG 70 [71, 70] [(71, [], undef), (70, [], .bool false)] H99 rfl rfl rfl rfl rfl rfl fun _ H100 => ?_
   clear H99
   refine m_skipG 70 [72, 70] [(72, [], undef), (70, [], .bool false)] H100 rfl rfl rfl rfl rfl rfl fun _ H101 => ?_
   clear H100
   refine wl_batch 29 31 [] [74] [(74, [], .bool false)] [] H101 (by decide) (by kernel_rfl) trivial fun _ wd102 H103 hb => ?_
   clear H101
   replace hS := hS.below hb
   clear hb
   refine m_skipG 74 [75, 74] [(75, [], undef), (74, [], .bool false)] H103 rfl rfl rfl rfl rfl rfl fun _ H104 => ?_
   clear H103
   refine m_skipG 74 [76, 74] [(76, [], undef), (74, [], .bool false)] H104 rfl rfl rfl rfl rfl rfl fun _ H105 => ?_
   clear H104
   refine wl_batch 33 35 [] [1] [(1, [], .bool false)] [] H105 (by decide) (by kernel_rfl) trivial fun _ wd106 H107 hb => ?_
   clear H105
   replace hS := hS.below hb
   clear hb
   refine wl_end rfl ?_
   replace hS : SH M X w [gE0] _ := hS.sel [6] rfl
   obtain rfl := someE hm
   exact ⟨FrG.keep (ks := [1]) H107 (by kernel_rfl), hS⟩
  replace hm := bT rfl hm
  obtain ⟨y58, hy58, hm⟩ := bindE hm
  have hd := hS.hand [] [0, 1, 2, 3, 4, 5, 6] rfl rfl
  refine m_stpG 66 [67, 66] [(66, [], .bool true)] H57 rfl rfl rfl rfl (o_callx H57 rfl rfl (law31_one_ok m _ _ hy58 _ _ hd)) (fun _ => rfl) fun _ wd61 v H62 hq => ?_
  clear H57 hd
  obtain ⟨g59, rfl, hq⟩ := hq
  replace hS : SH M X w [Ent.own 31 tyDeclared y58 g59, Ent.own 31 tyDeclared y49 g50, Ent.own 31 tyDeclared y40 g41, Ent.own 31 tyDeclared y31 g32, Ent.own 31 tyDeclared y22 g23, Ent.own 31 tyDeclared y13 g14, Ent.own 31 tyDeclared y4 g5, gE0] _ := hS.join [] [0, 1, 2, 3, 4, 5, 6] rfl rfl hq
  clear hq
  obtain ⟨y63, hy63, hm⟩ := bindE hm
  obtain ⟨x64, hx64, hm⟩ := letE hm
  refine wl_batch 24 27 [(.bool y63)] [70] [(70, [], .bool x64)] [fun wz => (true = true ∧ True → RetB Tryd.prog 4 ⟨[.slice g59.a y58.length g59.c, .string ⟨⟨[99, 111, 108, 111, 114]⟩⟩, .int .i64 0, .string ⟨⟨[]⟩⟩]⟩ (.bool y63) wz)] H62 (by decide) (by subst hx64; kernel_rfl) ⟨fun hg => law31_says_ok (g_l_ := g59) m _ _ _ _ _ hy63 _ (s0im (s0im s0nil (hS.im 7 rfl)) (hS.osl 0 rfl)), trivial⟩ fun _ wd65 H66 hb => ?_
  clear H62
  replace hS := hS.below hb
  clear hb
  cases x64
  case false =>
   replace hm := bF rfl hm
   refine m_skipG 70 [71, 70] [(71, [], undef), (70, [], .bool false)] H66 rfl rfl rfl rfl rfl rfl fun _ H88 => ?_
   clear H66
   refine m_skipG 70 [72, 70] [(72, [], undef), (70, [], .bool false)] H88 rfl rfl rfl rfl rfl rfl fun _ H89 => ?_
   clear H88
   refine wl_batch 29 31 [] [74] [(74, [], .bool false)] [] H89 (by decide) (by kernel_rfl) trivial fun _ wd90 H91 hb => ?_
   clear H89
   replace hS := hS.below hb
   clear hb
   refine m_skipG 74 [75, 74] [(75, [], undef), (74, [], .bool false)] H91 rfl rfl rfl rfl rfl rfl fun _ H92 => ?_
   clear H91
   refine m_skipG 74 [76, 74] [(76, [], undef), (74, [], .bool false)] H92 rfl rfl rfl rfl rfl rfl fun _ H93 => ?_
   clear H92
   refine wl_batch 33 35 [] [1] [(1, [], .bool false)] [] H93 (by decide) (by kernel_rfl) trivial fun _ wd94 H95 hb => ?_
   clear H93
   replace hS := hS.below hb
   clear hb
   refine wl_end rfl ?_
   replace hS : SH M X w [gE0] _ := hS.sel [7] rfl
   obtain rfl := someE hm
   exact ⟨FrG.keep (ks := [1]) H95 (by kernel_rfl), hS⟩
  replace hm := bT rfl hm
  obtain ⟨y67, hy67, hm⟩ := bindE hm
  have hd := hS.hand [] [0, 1, 2, 3, 4, 5, 6, 7] rfl rfl
  refine m_stpG 70 [71, 70] [(70, [], .bool true)] H66 rfl rfl rfl rfl (o_callx H66 rfl rfl (law31_one_ok m _ _ hy67 _ _ hd)) (fun _ => rfl) fun _ wd70 v H71 hq => ?_
  clear H66 hd
  obtain ⟨g68, rfl, hq⟩ := hq
  replace hS : SH M X w [Ent.own 31 tyDeclared y67 g68, Ent.own 31 tyDeclared y58 g59, Ent.own 31 tyDeclared y49 g50, Ent.own 31 tyDeclared y40 g41, Ent.own 31 tyDeclared y31 g32, Ent.own 31 tyDeclared y22 g23, Ent.own 31 tyDeclared y13 g14, Ent.own 31 tyDeclared y4 g5, gE0] _ := hS.join [] [0, 1, 2, 3, 4, 5, 6, 7] rfl rfl hq
  clear hq
  obtain ⟨y72, hy72, hm⟩ := bindE hm
  obtain ⟨x73, hx73, hm⟩ := letE hm
  refine wl_batch 28 31 [(.bool y72)] [74] [(74, [], .bool x73)] [fun wz => (true = true ∧ True → RetB Tryd.prog 4 ⟨[.slice g68.a y67.length g68.c, .string ⟨⟨[119, 105, 100, 116, 104]⟩⟩, .int .i64 1, .string ⟨⟨[]⟩⟩]⟩ (.bool y72) wz)] H71 (by decide) (by subst hx73; kernel_rfl) ⟨fun hg => law31_says_ok (g_l_ := g68) m _ _ _ _ _ hy72 _ (s0im (s0im s0nil (hS.im 8 rfl)) (hS.osl 0 rfl)), trivial⟩ fun _ wd74 H75 hb => ?_
  clear H71
  replace hS := hS.below hb
  clear hb
  cases x73
  case false =>
   replace hm := bF rfl hm
   refine m_skipG 74 [75, 74] [(75, [], undef), (74, [], .bool false)] H75 rfl rfl rfl rfl rfl rfl fun _ H84 => ?_
   clear H75
   refine m_skipG 74 [76, 74] [(76, [], undef), (74, [], .bool false)] H84 rfl rfl rfl rfl rfl rfl fun _ H85 => ?_
   clear H84
   refine wl_batch 33 35 [] [1] [(1, [], .bool false)] [] H85 (by decide) (by kernel_rfl) trivial fun _ wd86 H87 hb => ?_
   clear H85
   replace hS := hS.below hb
   clear hb
   refine wl_end rfl ?_
   replace hS : SH M X w [gE0] _ := hS.sel [8] rfl
   obtain rfl := someE hm
   exact ⟨FrG.keep (ks := [1]) H87 (by kernel_rfl), hS⟩
  replace hm := bT rfl hm
  obtain ⟨y76, hy76, hm⟩ := bindE hm
  have hd := hS.hand [] [0, 1, 2, 3, 4, 5, 6, 7, 8] rfl rfl
  refine m_stpG 74 [75, 74] [(74, [], .bool true)] H75 rfl rfl rfl rfl (o_callx H75 rfl rfl (law31_one_ok m _ _ hy76 _ _ hd)) (fun _ => rfl) fun _ wd79 v H80 hq => ?_
  clear H75 hd
  obtain ⟨g77, rfl, hq⟩ := hq
  replace hS : SH M X w [Ent.own 31 tyDeclared y76 g77, Ent.own 31 tyDeclared y67 g68, Ent.own 31 tyDeclared y58 g59, Ent.own 31 tyDeclared y49 g50, Ent.own 31 tyDeclared y40 g41, Ent.own 31 tyDeclared y31 g32, Ent.own 31 tyDeclared y22 g23, Ent.own 31 tyDeclared y13 g14, Ent.own 31 tyDeclared y4 g5, gE0] _ := hS.join [] [0, 1, 2, 3, 4, 5, 6, 7, 8] rfl rfl hq
  clear hq
  obtain ⟨y81, hy81, hm⟩ := bindE hm
  refine wl_batch 32 35 [(.bool y81)] [1] [(1, [], .bool y81)] [fun wz => (true = true ∧ True → RetB Tryd.prog 4 ⟨[.slice g77.a y76.length g77.c, .string ⟨⟨[99, 111, 108, 111, 114]⟩⟩, .int .i64 0, .string ⟨⟨[]⟩⟩]⟩ (.bool y81) wz)] H80 (by decide) (by kernel_rfl) ⟨fun hg => law31_says_ok (g_l_ := g77) m _ _ _ _ _ hy81 _ (s0im (s0im s0nil (hS.im 9 rfl)) (hS.osl 0 rfl)), trivial⟩ fun _ wd82 H83 hb => ?_
  clear H80
  replace hS := hS.below hb
  clear hb
  refine wl_end rfl ?_
  replace hS : SH M X w [gE0] _ := hS.sel [9] rfl
  obtain rfl := someE hm
  exact ⟨FrG.keep (ks := [1]) H83 (by kernel_rfl), hS⟩
 ·rintro _ wd461 ⟨H, hS⟩
  refine w_seq ?_
  refine wl_start ?_
  obtain ⟨y228, hy228, hm⟩ := bindE hm
  have hd := hS.hand [] [0] rfl rfl
  refine m_stp [78, 1] [(1, [], .bool z3)] H rfl rfl rfl rfl (o_callx H rfl rfl (law31_of_ok m _ _ _ _ hy228 _ _ hd)) (fun _ => rfl) fun _ wd231 v H232 hq => ?_
  clear H hd
  obtain ⟨g229, rfl, hq⟩ := hq
  replace hS : SH M X w [Ent.im tyValue y228.Long.Value g229, gE0] _ := hS.join [] [0] rfl rfl hq
  clear hq
  have hd := hS.hand [] [0, 1] rfl rfl
  refine m_stp [2, 1, 78] [(1, [], .bool z3), (78, [], .agg ⟨[.string ⟨⟨y228.Long.Name⟩⟩, .slice g229.a y228.Long.Value.length g229.c, .string ⟨⟨y228.Long.Whole⟩⟩, .bool y228.Important, .int .u8 y228.Origin, .bool y228.Attached, .int .i64 y228.Layer, .int .i64 y228.Weight.e0, .int .i64 y228.Weight.e1, .int .i64 y228.Weight.e2, .int .i64 y228.Order]⟩)] H232 rfl rfl rfl rfl (o_alloc [.string ⟨⟨[]⟩⟩, .slice none 0 0, .string ⟨⟨[]⟩⟩, .bool false, .int .u8 0, .bool false, .int .i64 0, .int .i64 0, .int .i64 0, .int .i64 0, .int .i64 0] (z := .agg ⟨[.string ⟨⟨[]⟩⟩, .slice none 0 0, .string ⟨⟨[]⟩⟩, .bool false, .int .u8 0, .bool false, .int .i64 0, .int .i64 0, .int .i64 0, .int .i64 0, .int .i64 0]⟩) hd (by kernel_rfl) rfl) (fun _ => rfl) fun _ wd234 v H235 hq => ?_
  clear H232 hd
  obtain ⟨b233, rfl, hq⟩ := hq
  replace hS : SH M X w [Ent.blk b233 [.string ⟨⟨[]⟩⟩, .slice none 0 0, .string ⟨⟨[]⟩⟩, .bool false, .int .u8 0, .bool false, .int .i64 0, .int .i64 0, .int .i64 0, .int .i64 0, .int .i64 0], Ent.im tyValue y228.Long.Value g229, gE0] _ := hS.join [] [0, 1] rfl rfl hq
  clear hq
  have hd := hS.hand [0] [1, 2] rfl rfl
  refine m_stp0 [1, 2] [(1, [], .bool z3), (2, [], .pointer (some ⟨b233, 0, none⟩))] H235 rfl rfl rfl (o_store [.string ⟨⟨y228.Long.Name⟩⟩, .slice g229.a y228.Long.Value.length g229.c, .string ⟨⟨y228.Long.Whole⟩⟩, .bool y228.Important, .int .u8 y228.Origin, .bool y228.Attached, .int .i64 y228.Layer, .int .i64 y228.Weight.e0, .int .i64 y228.Weight.e1, .int .i64 y228.Weight.e2, .int .i64 y228.Order] H235 hd rfl rfl (by kernel_rfl) rfl rfl rfl) rfl fun _ wd236 H237 hq => ?_
  clear H235 hd
  obtain ⟨_, hq⟩ := hq
  replace hS : SH M X w [Ent.blk b233 [.string ⟨⟨y228.Long.Name⟩⟩, .slice g229.a y228.Long.Value.length g229.c, .string ⟨⟨y228.Long.Whole⟩⟩, .bool y228.Important, .int .u8 y228.Origin, .bool y228.Attached, .int .i64 y228.Layer, .int .i64 y228.Weight.e0, .int .i64 y228.Weight.e1, .int .i64 y228.Weight.e2, .int .i64 y228.Order], Ent.im tyValue y228.Long.Value g229, gE0] _ := hS.join [0] [1, 2] rfl rfl hq
  clear hq
  refine wl_end rfl ?_
  refine w_seq ?_
  refine wl_start ?_
  refine wl_batch 0 1 [] [1, 2, 79] [(1, [], .bool z3), (2, [], .pointer (some ⟨b233, 0, none⟩)), (79, [], .pointer (some ⟨b233, 3, none⟩))] [] H237 (by decide) (by kernel_rfl) trivial fun _ wd238 H239 hb => ?_
  clear H237
  replace hS := hS.below hb
  clear hb
  have hd := hS.hand [0] [1, 2] rfl rfl
  refine m_stp0 [1, 2] [(1, [], .bool z3), (2, [], .pointer (some ⟨b233, 0, none⟩))] H239 rfl rfl rfl (o_store [.string ⟨⟨y228.Long.Name⟩⟩, .slice g229.a y228.Long.Value.length g229.c, .string ⟨⟨y228.Long.Whole⟩⟩, .bool true, .int .u8 y228.Origin, .bool y228.Attached, .int .i64 y228.Layer, .int .i64 y228.Weight.e0, .int .i64 y228.Weight.e1, .int .i64 y228.Weight.e2, .int .i64 y228.Order] H239 hd rfl rfl (by kernel_rfl) rfl rfl rfl) rfl fun _ wd240 H241 hq => ?_
  clear H239 hd
  obtain ⟨_, hq⟩ := hq
  replace hS : SH M X w [Ent.blk b233 [.string ⟨⟨y228.Long.Name⟩⟩, .slice g229.a y228.Long.Value.length g229.c, .string ⟨⟨y228.Long.Whole⟩⟩, .bool true, .int .u8 y228.Origin, .bool y228.Attached, .int .i64 y228.Layer, .int .i64 y228.Weight.e0, .int .i64 y228.Weight.e1, .int .i64 y228.Weight.e2, .int .i64 y228.Order], Ent.im tyValue y228.Long.Value g229, gE0] _ := hS.join [0] [1, 2] rfl rfl hq
  clear hq
  refine wl_end rfl ?_
  refine w_seq ?_
  refine wl_start ?_
  obtain ⟨y242, hy242, hm⟩ := bindE hm
  have hd := hS.hand [] [0, 1, 2] rfl rfl
  refine m_stp [80, 1, 2] [(1, [], .bool z3), (2, [], .pointer (some ⟨b233, 0, none⟩))] H241 rfl rfl rfl rfl (o_callx H241 rfl rfl (law31_of_ok m _ _ _ _ hy242 _ _ hd)) (fun _ => rfl) fun _ wd245 v H246 hq => ?_
  clear H241 hd
  obtain ⟨g243, rfl, hq⟩ := hq
  replace hS : SH M X w [Ent.im tyValue y242.Long.Value g243, Ent.blk b233 [.string ⟨⟨y228.Long.Name⟩⟩, .slice g229.a y228.Long.Value.length g229.c, .string ⟨⟨y228.Long.Whole⟩⟩, .bool true, .int .u8 y228.Origin, .bool y228.Attached, .int .i64 y228.Layer, .int .i64 y228.Weight.e0, .int .i64 y228.Weight.e1, .int .i64 y228.Weight.e2, .int .i64 y228.Order], Ent.im tyValue y228.Long.Value g229, gE0] _ := hS.join [] [0, 1, 2] rfl rfl hq
  clear hq
  have hd := hS.hand [] [0, 1, 2, 3] rfl rfl
  refine m_stp [3, 1, 2, 80] [(1, [], .bool z3), (2, [], .pointer (some ⟨b233, 0, none⟩)), (80, [], .agg ⟨[.string ⟨⟨y242.Long.Name⟩⟩, .slice g243.a y242.Long.Value.length g243.c, .string ⟨⟨y242.Long.Whole⟩⟩, .bool y242.Important, .int .u8 y242.Origin, .bool y242.Attached, .int .i64 y242.Layer, .int .i64 y242.Weight.e0, .int .i64 y242.Weight.e1, .int .i64 y242.Weight.e2, .int .i64 y242.Order]⟩)] H246 rfl rfl rfl rfl (o_alloc [.string ⟨⟨[]⟩⟩, .slice none 0 0, .string ⟨⟨[]⟩⟩, .bool false, .int .u8 0, .bool false, .int .i64 0, .int .i64 0, .int .i64 0, .int .i64 0, .int .i64 0] (z := .agg ⟨[.string ⟨⟨[]⟩⟩, .slice none 0 0, .string ⟨⟨[]⟩⟩, .bool false, .int .u8 0, .bool false, .int .i64 0, .int .i64 0, .int .i64 0, .int .i64 0, .int .i64 0]⟩) hd (by kernel_rfl) rfl) (fun _ => rfl) fun _ wd248 v H249 hq => ?_
  clear H246 hd
  obtain ⟨b247, rfl, hq⟩ := hq
  replace hS : SH M X w [Ent.blk b247 [.string ⟨⟨[]⟩⟩, .slice none 0 0, .string ⟨⟨[]⟩⟩, .bool false, .int .u8 0, .bool false, .int .i64 0, .int .i64 0, .int .i64 0, .int .i64 0, .int .i64 0], Ent.im tyValue y242.Long.Value g243, Ent.blk b233 [.string ⟨⟨y228.Long.Name⟩⟩, .slice g229.a y228.Long.Value.length g229.c, .string ⟨⟨y228.Long.Whole⟩⟩, .bool true, .int .u8 y228.Origin, .bool y228.Attached, .int .i64 y228.Layer, .int .i64 y228.Weight.e0, .int .i64 y228.Weight.e1, .int .i64 y228.Weight.e2, .int .i64 y228.Order], Ent.im tyValue y228.Long.Value g229, gE0] _ := hS.join [] [0, 1, 2, 3] rfl rfl hq
  clear hq
  have hd := hS.hand [0] [1, 2, 3, 4] rfl rfl
  refine m_stp0 [1, 2, 3] [(1, [], .bool z3), (2, [], .pointer (some ⟨b233, 0, none⟩)), (3, [], .pointer (some ⟨b247, 0, none⟩))] H249 rfl rfl rfl (o_store [.string ⟨⟨y242.Long.Name⟩⟩, .slice g243.a y242.Long.Value.length g243.c, .string ⟨⟨y242.Long.Whole⟩⟩, .bool y242.Important, .int .u8 y242.Origin, .bool y242.Attached, .int .i64 y242.Layer, .int .i64 y242.Weight.e0, .int .i64 y242.Weight.e1, .int .i64 y242.Weight.e2, .int .i64 y242.Order] H249 hd rfl rfl (by kernel_rfl) rfl rfl rfl) rfl fun _ wd250 H251 hq => ?_
  clear H249 hd
  obtain ⟨_, hq⟩ := hq
  replace hS : SH M X w [Ent.blk b247 [.string ⟨⟨y242.Long.Name⟩⟩, .slice g243.a y242.Long.Value.length g243.c, .string ⟨⟨y242.Long.Whole⟩⟩, .bool y242.Important, .int .u8 y242.Origin, .bool y242.Attached, .int .i64 y242.Layer, .int .i64 y242.Weight.e0, .int .i64 y242.Weight.e1, .int .i64 y242.Weight.e2, .int .i64 y242.Order], Ent.im tyValue y242.Long.Value g243, Ent.blk b233 [.string ⟨⟨y228.Long.Name⟩⟩, .slice g229.a y228.Long.Value.length g229.c, .string ⟨⟨y228.Long.Whole⟩⟩, .bool true, .int .u8 y228.Origin, .bool y228.Attached, .int .i64 y228.Layer, .int .i64 y228.Weight.e0, .int .i64 y228.Weight.e1, .int .i64 y228.Weight.e2, .int .i64 y228.Order], Ent.im tyValue y228.Long.Value g229, gE0] _ := hS.join [0] [1, 2, 3, 4] rfl rfl hq
  clear hq
  refine wl_end rfl ?_
  refine w_seq ?_
  refine wl_start ?_
  refine wl_batch 0 1 [] [1, 2, 3, 81] [(1, [], .bool z3), (2, [], .pointer (some ⟨b233, 0, none⟩)), (3, [], .pointer (some ⟨b247, 0, none⟩)), (81, [], .pointer (some ⟨b247, 3, none⟩))] [] H251 (by decide) (by kernel_rfl) trivial fun _ wd252 H253 hb => ?_
  clear H251
  replace hS := hS.below hb
  clear hb
  have hd := hS.hand [0] [1, 2, 3, 4] rfl rfl
  refine m_stp0 [1, 2, 3] [(1, [], .bool z3), (2, [], .pointer (some ⟨b233, 0, none⟩)), (3, [], .pointer (some ⟨b247, 0, none⟩))] H253 rfl rfl rfl (o_store [.string ⟨⟨y242.Long.Name⟩⟩, .slice g243.a y242.Long.Value.length g243.c, .string ⟨⟨y242.Long.Whole⟩⟩, .bool true, .int .u8 y242.Origin, .bool y242.Attached, .int .i64 y242.Layer, .int .i64 y242.Weight.e0, .int .i64 y242.Weight.e1, .int .i64 y242.Weight.e2, .int .i64 y242.Order] H253 hd rfl rfl (by kernel_rfl) rfl rfl rfl) rfl fun _ wd254 H255 hq => ?_
  clear H253 hd
  obtain ⟨_, hq⟩ := hq
  replace hS : SH M X w [Ent.blk b247 [.string ⟨⟨y242.Long.Name⟩⟩, .slice g243.a y242.Long.Value.length g243.c, .string ⟨⟨y242.Long.Whole⟩⟩, .bool true, .int .u8 y242.Origin, .bool y242.Attached, .int .i64 y242.Layer, .int .i64 y242.Weight.e0, .int .i64 y242.Weight.e1, .int .i64 y242.Weight.e2, .int .i64 y242.Order], Ent.im tyValue y242.Long.Value g243, Ent.blk b233 [.string ⟨⟨y228.Long.Name⟩⟩, .slice g229.a y228.Long.Value.length g229.c, .string ⟨⟨y228.Long.Whole⟩⟩, .bool true, .int .u8 y228.Origin, .bool y228.Attached, .int .i64 y228.Layer, .int .i64 y228.Weight.e0, .int .i64 y228.Weight.e1, .int .i64 y228.Weight.e2, .int .i64 y228.Order], Ent.im tyValue y228.Long.Value g229, gE0] _ := hS.join [0] [1, 2, 3, 4] rfl rfl hq
  clear hq
  refine wl_end rfl ?_
  obtain ⟨y257, hy257, hm⟩ := bindE hm
  obtain ⟨y260, hy260, hm⟩ := bindE hm
  refine s_drawS (base := [(1, [], .bool z3), (2, [], .pointer (some ⟨b233, 0, none⟩)), (3, [], .pointer (some ⟨b247, 0, none⟩))]) (L := [Ent.blk b247 [.string ⟨⟨y242.Long.Name⟩⟩, .slice g243.a y242.Long.Value.length g243.c, .string ⟨⟨y242.Long.Whole⟩⟩, .bool true, .int .u8 y242.Origin, .bool y242.Attached, .int .i64 y242.Layer, .int .i64 y242.Weight.e0, .int .i64 y242.Weight.e1, .int .i64 y242.Weight.e2, .int .i64 y242.Order], Ent.im tyValue y242.Long.Value g243, Ent.blk b233 [.string ⟨⟨y228.Long.Name⟩⟩, .slice g229.a y228.Long.Value.length g229.c, .string ⟨⟨y228.Long.Whole⟩⟩, .bool true, .int .u8 y228.Origin, .bool y228.Attached, .int .i64 y228.Layer, .int .i64 y228.Weight.e0, .int .i64 y228.Weight.e1, .int .i64 y228.Weight.e2, .int .i64 y228.Order], Ent.im tyValue y228.Long.Value g229, gE0]) 5 5 (fun yg256 => [.agg ⟨[.string ⟨⟨y257.Long.Name⟩⟩, .slice (yg256 0 0).a y257.Long.Value.length (yg256 0 0).c, .string ⟨⟨y257.Long.Whole⟩⟩, .bool y257.Important, .int .u8 y257.Origin, .bool y257.Attached, .int .i64 y257.Layer, .int .i64 y257.Weight.e0, .int .i64 y257.Weight.e1, .int .i64 y257.Weight.e2, .int .i64 y257.Order]⟩, .agg ⟨[.string ⟨⟨y260.Long.Name⟩⟩, .slice (yg256 1 0).a y260.Long.Value.length (yg256 1 0).c, .string ⟨⟨y260.Long.Whole⟩⟩, .bool y260.Important, .int .u8 y260.Origin, .bool y260.Attached, .int .i64 y260.Layer, .int .i64 y260.Weight.e0, .int .i64 y260.Weight.e1, .int .i64 y260.Weight.e2, .int .i64 y260.Order]⟩, .agg ⟨[.string ⟨⟨y242.Long.Name⟩⟩, .slice g243.a y242.Long.Value.length g243.c, .string ⟨⟨y242.Long.Whole⟩⟩, .bool true, .int .u8 y242.Origin, .bool y242.Attached, .int .i64 y242.Layer, .int .i64 y242.Weight.e0, .int .i64 y242.Weight.e1, .int .i64 y242.Weight.e2, .int .i64 y242.Order]⟩, .slice (yg256 3 0).a 3 (yg256 3 0).c, .slice (yg256 3 0).a 3 (yg256 3 0).c]) (fun yg256 => [[Ent.im tyValue y257.Long.Value (yg256 0 0)], [Ent.im tyValue y260.Long.Value (yg256 1 0)], [], [Ent.own 31 tyDeclared ([y257, y260, (TDeclared.mk y242.Long true y242.Origin y242.Attached y242.Layer y242.Weight y242.Order)] : List TDeclared) (yg256 3 0)], []]) [[], [], [5, 6], [0, 1, 6], [3]] [[], [], [], [], []] [[0], [1], [2], [0, 1, 2, 3], [0, 1, 2, 3, 4]] [] (FrG.keep (ks := [1, 2, 3]) H255 (by kernel_rfl)) (fun _ _ h => by cases h) (by kernel_rfl) hS (by kernel_rfl) rfl rfl (by kernel_rfl) (by kernel_rfl) (by kernel_rfl) (gd_none (by kernel_rfl) _ _) ?hloc_yg256 ?hstep_yg256 fun _ wd265 yg256 H266 hv hS => ?hK_yg256
  case hloc_yg256 => exact ⟨(fun yg256 i g hi => by have h0 : updC yg256 i g 0 = yg256 0 := updC_out hi rfl; exact ⟨(show (.agg ⟨[.string ⟨⟨y257.Long.Name⟩⟩, .slice ((updC yg256 i g) 0 0).a y257.Long.Value.length ((updC yg256 i g) 0 0).c, .string ⟨⟨y257.Long.Whole⟩⟩, .bool y257.Important, .int .u8 y257.Origin, .bool y257.Attached, .int .i64 y257.Layer, .int .i64 y257.Weight.e0, .int .i64 y257.Weight.e1, .int .i64 y257.Weight.e2, .int .i64 y257.Order]⟩ : Value) = .agg ⟨[.string ⟨⟨y257.Long.Name⟩⟩, .slice (yg256 0 0).a y257.Long.Value.length (yg256 0 0).c, .string ⟨⟨y257.Long.Whole⟩⟩, .bool y257.Important, .int .u8 y257.Origin, .bool y257.Attached, .int .i64 y257.Layer, .int .i64 y257.Weight.e0, .int .i64 y257.Weight.e1, .int .i64 y257.Weight.e2, .int .i64 y257.Order]⟩ by simp only [h0]), (show ([Ent.im tyValue y257.Long.Value ((updC yg256 i g) 0 0)] : List Ent) = [Ent.im tyValue y257.Long.Value (yg256 0 0)] by simp only [h0])⟩), (fun yg256 i g hi => by have h1 : updC yg256 i g 1 = yg256 1 := updC_out hi rfl; exact ⟨(show (.agg ⟨[.string ⟨⟨y260.Long.Name⟩⟩, .slice ((updC yg256 i g) 1 0).a y260.Long.Value.length ((updC yg256 i g) 1 0).c, .string ⟨⟨y260.Long.Whole⟩⟩, .bool y260.Important, .int .u8 y260.Origin, .bool y260.Attached, .int .i64 y260.Layer, .int .i64 y260.Weight.e0, .int .i64 y260.Weight.e1, .int .i64 y260.Weight.e2, .int .i64 y260.Order]⟩ : Value) = .agg ⟨[.string ⟨⟨y260.Long.Name⟩⟩, .slice (yg256 1 0).a y260.Long.Value.length (yg256 1 0).c, .string ⟨⟨y260.Long.Whole⟩⟩, .bool y260.Important, .int .u8 y260.Origin, .bool y260.Attached, .int .i64 y260.Layer, .int .i64 y260.Weight.e0, .int .i64 y260.Weight.e1, .int .i64 y260.Weight.e2, .int .i64 y260.Order]⟩ by simp only [h1]), (show ([Ent.im tyValue y260.Long.Value ((updC yg256 i g) 1 0)] : List Ent) = [Ent.im tyValue y260.Long.Value (yg256 1 0)] by simp only [h1])⟩), (fun _ _ _ _ => ⟨rfl, rfl⟩), (fun yg256 i g hi => by have h3 : updC yg256 i g 3 = yg256 3 := updC_out hi rfl; exact ⟨(show (.slice ((updC yg256 i g) 3 0).a 3 ((updC yg256 i g) 3 0).c : Value) = .slice (yg256 3 0).a 3 (yg256 3 0).c by simp only [h3]), (show ([Ent.own 31 tyDeclared ([y257, y260, (TDeclared.mk y242.Long true y242.Origin y242.Attached y242.Layer y242.Weight y242.Order)] : List TDeclared) ((updC yg256 i g) 3 0)] : List Ent) = [Ent.own 31 tyDeclared ([y257, y260, (TDeclared.mk y242.Long true y242.Origin y242.Attached y242.Layer y242.Weight y242.Order)] : List TDeclared) (yg256 3 0)] by simp only [h3])⟩), (fun yg256 i g hi => by have h3 : updC yg256 i g 3 = yg256 3 := updC_out hi rfl; exact ⟨(show (.slice ((updC yg256 i g) 3 0).a 3 ((updC yg256 i g) 3 0).c : Value) = .slice (yg256 3 0).a 3 (yg256 3 0).c by simp only [h3]), (show ([] : List Ent) = [] by simp only [])⟩), trivial⟩
  case hstep_yg256 =>
   refine ⟨?_, ?_, ?_, ?_, ?_, trivial⟩
   ·intro o ho a w yg256 M Hb hv hO hS0
    obtain rfl := Option.some.inj ho
    have H : Fr 279 ([] ++ [(1, [], .bool z3), (2, [], .pointer (some ⟨b233, 0, none⟩)), (3, [], .pointer (some ⟨b247, 0, none⟩))]) _ := Hb
    obtain ⟨X, hX⟩ : ∃ X, X = fpl [] := ⟨_, rfl⟩
    have hS : SH M X w [] w := by rw [hX]; exact hS0
    have hd := hS.hand [] [] rfl rfl
    refine Stp.mono (o_callx H rfl rfl (law31_of_ok m _ _ _ _ hy257 _ _ hd)) ?_
    rintro v w2 hq
    obtain ⟨g258, rfl, hq⟩ := hq
    replace hS : SH M X w [Ent.im tyValue y257.Long.Value g258] _ := hS.join [] [] rfl rfl hq
    clear hq
    rw [hX] at hS
    exact ⟨gL [g258], fun _ _ => rfl, hS.sel [0] rfl⟩
   ·intro o ho a w yg256 M Hb hv hO hS0
    obtain rfl := Option.some.inj ho
    have H : Fr 279 ([] ++ [(1, [], .bool z3), (2, [], .pointer (some ⟨b233, 0, none⟩)), (3, [], .pointer (some ⟨b247, 0, none⟩))]) _ := Hb
    obtain ⟨X, hX⟩ : ∃ X, X = fpl [] := ⟨_, rfl⟩
    have hS : SH M X w [] w := by rw [hX]; exact hS0
    have hd := hS.hand [] [] rfl rfl
    refine Stp.mono (o_callx H rfl rfl (law31_of_ok m _ _ _ _ hy260 _ _ hd)) ?_
    rintro v w2 hq
    obtain ⟨g261, rfl, hq⟩ := hq
    replace hS : SH M X w [Ent.im tyValue y260.Long.Value g261] _ := hS.join [] [] rfl rfl hq
    clear hq
    rw [hX] at hS
    exact ⟨gL [g261], fun _ _ => rfl, hS.sel [0] rfl⟩
   ·intro o ho a w yg256 M Hb hv hO hS0
    obtain rfl := Option.some.inj ho
    have H : Fr 279 ([] ++ [(1, [], .bool z3), (2, [], .pointer (some ⟨b233, 0, none⟩)), (3, [], .pointer (some ⟨b247, 0, none⟩))]) _ := Hb
    obtain ⟨X, hX⟩ : ∃ X, X = fpl [Ent.blk b247 [.string ⟨⟨y242.Long.Name⟩⟩, .slice g243.a y242.Long.Value.length g243.c, .string ⟨⟨y242.Long.Whole⟩⟩, .bool true, .int .u8 y242.Origin, .bool y242.Attached, .int .i64 y242.Layer, .int .i64 y242.Weight.e0, .int .i64 y242.Weight.e1, .int .i64 y242.Weight.e2, .int .i64 y242.Order], Ent.im tyValue y242.Long.Value g243] := ⟨_, rfl⟩
    have hS : SH M X w [Ent.blk b247 [.string ⟨⟨y242.Long.Name⟩⟩, .slice g243.a y242.Long.Value.length g243.c, .string ⟨⟨y242.Long.Whole⟩⟩, .bool true, .int .u8 y242.Origin, .bool y242.Attached, .int .i64 y242.Layer, .int .i64 y242.Weight.e0, .int .i64 y242.Weight.e1, .int .i64 y242.Weight.e2, .int .i64 y242.Order], Ent.im tyValue y242.Long.Value g243] w := by rw [hX]; exact hS0
    refine Stp.mono (o_evs [(.agg ⟨[.string ⟨⟨y242.Long.Name⟩⟩, .slice g243.a y242.Long.Value.length g243.c, .string ⟨⟨y242.Long.Whole⟩⟩, .bool true, .int .u8 y242.Origin, .bool y242.Attached, .int .i64 y242.Layer, .int .i64 y242.Weight.e0, .int .i64 y242.Weight.e1, .int .i64 y242.Weight.e2, .int .i64 y242.Order]⟩)] (.agg ⟨[.string ⟨⟨y242.Long.Name⟩⟩, .slice g243.a y242.Long.Value.length g243.c, .string ⟨⟨y242.Long.Whole⟩⟩, .bool true, .int .u8 y242.Origin, .bool y242.Attached, .int .i64 y242.Layer, .int .i64 y242.Weight.e0, .int .i64 y242.Weight.e1, .int .i64 y242.Weight.e2, .int .i64 y242.Order]⟩) (some (fun wz => V.atN b247 0 [.string ⟨⟨y242.Long.Name⟩⟩, .slice g243.a y242.Long.Value.length g243.c, .string ⟨⟨y242.Long.Whole⟩⟩, .bool true, .int .u8 y242.Origin, .bool y242.Attached, .int .i64 y242.Layer, .int .i64 y242.Weight.e0, .int .i64 y242.Weight.e1, .int .i64 y242.Weight.e2, .int .i64 y242.Order] 0 wz)) [] H rfl (by kernel_rfl) (fun q e => by cases e; exact ((hS.bk 0 rfl).atD rfl))) ?_
    rintro v w2 ⟨rfl, hq⟩
    replace hS : SH M X w [Ent.blk b247 [.string ⟨⟨y242.Long.Name⟩⟩, .slice g243.a y242.Long.Value.length g243.c, .string ⟨⟨y242.Long.Whole⟩⟩, .bool true, .int .u8 y242.Origin, .bool y242.Attached, .int .i64 y242.Layer, .int .i64 y242.Weight.e0, .int .i64 y242.Weight.e1, .int .i64 y242.Weight.e2, .int .i64 y242.Order], Ent.im tyValue y242.Long.Value g243] _ := hS.below hq.below
    rw [hX] at hS
    exact ⟨gL [], fun _ _ => rfl, hS.sel [0, 1] rfl⟩
   ·intro o ho a w yg256 M Hb hv hO hS0
    obtain rfl := Option.some.inj ho
    have H : Fr 279 ([(84, [], .agg ⟨[.string ⟨⟨y242.Long.Name⟩⟩, .slice g243.a y242.Long.Value.length g243.c, .string ⟨⟨y242.Long.Whole⟩⟩, .bool true, .int .u8 y242.Origin, .bool y242.Attached, .int .i64 y242.Layer, .int .i64 y242.Weight.e0, .int .i64 y242.Weight.e1, .int .i64 y242.Weight.e2, .int .i64 y242.Order]⟩), (83, [], .agg ⟨[.string ⟨⟨y260.Long.Name⟩⟩, .slice (yg256 1 0).a y260.Long.Value.length (yg256 1 0).c, .string ⟨⟨y260.Long.Whole⟩⟩, .bool y260.Important, .int .u8 y260.Origin, .bool y260.Attached, .int .i64 y260.Layer, .int .i64 y260.Weight.e0, .int .i64 y260.Weight.e1, .int .i64 y260.Weight.e2, .int .i64 y260.Order]⟩), (82, [], .agg ⟨[.string ⟨⟨y257.Long.Name⟩⟩, .slice (yg256 0 0).a y257.Long.Value.length (yg256 0 0).c, .string ⟨⟨y257.Long.Whole⟩⟩, .bool y257.Important, .int .u8 y257.Origin, .bool y257.Attached, .int .i64 y257.Layer, .int .i64 y257.Weight.e0, .int .i64 y257.Weight.e1, .int .i64 y257.Weight.e2, .int .i64 y257.Order]⟩)] ++ [(1, [], .bool z3), (2, [], .pointer (some ⟨b233, 0, none⟩)), (3, [], .pointer (some ⟨b247, 0, none⟩))]) _ := (((Hb).add (hv 0 (by decide) (by decide) 82 rfl)).add (hv 1 (by decide) (by decide) 83 rfl)).add (hv 2 (by decide) (by decide) 84 rfl)
    obtain ⟨X, hX⟩ : ∃ X, X = fpl [Ent.im tyValue y257.Long.Value (yg256 0 0), Ent.im tyValue y260.Long.Value (yg256 1 0), Ent.im tyValue y242.Long.Value g243] := ⟨_, rfl⟩
    have hS : SH M X w [Ent.im tyValue y257.Long.Value (yg256 0 0), Ent.im tyValue y260.Long.Value (yg256 1 0), Ent.im tyValue y242.Long.Value g243] w := by rw [hX]; exact hS0
    have hd := hS.hand [0, 1, 2] [0, 1, 2] rfl rfl
    refine Stp.mono (o_lit (T := tyDeclared) (E := 31) (zv := .agg ⟨[.string ⟨⟨[]⟩⟩, .slice none 0 0, .string ⟨⟨[]⟩⟩, .bool false, .int .u8 0, .bool false, .int .i64 0, .int .i64 0, .int .i64 0, .int .i64 0, .int .i64 0]⟩) [.string ⟨⟨y257.Long.Name⟩⟩, .slice (yg256 0 0).a y257.Long.Value.length (yg256 0 0).c, .string ⟨⟨y257.Long.Whole⟩⟩, .bool y257.Important, .int .u8 y257.Origin, .bool y257.Attached, .int .i64 y257.Layer, .int .i64 y257.Weight.e0, .int .i64 y257.Weight.e1, .int .i64 y257.Weight.e2, .int .i64 y257.Order, .string ⟨⟨y260.Long.Name⟩⟩, .slice (yg256 1 0).a y260.Long.Value.length (yg256 1 0).c, .string ⟨⟨y260.Long.Whole⟩⟩, .bool y260.Important, .int .u8 y260.Origin, .bool y260.Attached, .int .i64 y260.Layer, .int .i64 y260.Weight.e0, .int .i64 y260.Weight.e1, .int .i64 y260.Weight.e2, .int .i64 y260.Order, .string ⟨⟨y242.Long.Name⟩⟩, .slice g243.a y242.Long.Value.length g243.c, .string ⟨⟨y242.Long.Whole⟩⟩, .bool true, .int .u8 y242.Origin, .bool y242.Attached, .int .i64 y242.Layer, .int .i64 y242.Weight.e0, .int .i64 y242.Weight.e1, .int .i64 y242.Weight.e2, .int .i64 y242.Order] ([y257, y260, (TDeclared.mk y242.Long true y242.Origin y242.Attached y242.Layer y242.Weight y242.Order)] : List TDeclared) [gL [(yg256 0 0)], gL [(yg256 1 0)], gL [g243]] _ H hd rfl (by kernel_rfl) (by kernel_rfl) (by kernel_rfl) (by kernel_rfl) (by kernel_rfl) (by kernel_rfl) (by kernel_rfl) rfl (InnL.cons (tyDeclared_mk (hd.im 0 rfl)) (InnL.cons (tyDeclared_mk (hd.im 1 rfl)) (InnL.cons (tyDeclared_mk (hd.im 2 rfl)) InnL.nil)))) ?_
    rintro v w2 hq
    obtain ⟨g263, rfl, hq⟩ := hq
    replace hS : SH M X w [Ent.own 31 tyDeclared ([y257, y260, (TDeclared.mk y242.Long true y242.Origin y242.Attached y242.Layer y242.Weight y242.Order)] : List TDeclared) g263, Ent.im tyValue y257.Long.Value (yg256 0 0), Ent.im tyValue y260.Long.Value (yg256 1 0), Ent.im tyValue y242.Long.Value g243] _ := hS.join [0, 1, 2] [0, 1, 2] rfl rfl hq
    clear hq
    rw [hX] at hS
    exact ⟨gL [g263], fun _ _ => rfl, hS.sel [0, 1, 2, 3] rfl⟩
   ·intro o ho a w yg256 M Hb hv hO hS0
    obtain rfl := Option.some.inj ho
    have H : Fr 279 ([(85, [], .slice (yg256 3 0).a 3 (yg256 3 0).c)] ++ [(1, [], .bool z3), (2, [], .pointer (some ⟨b233, 0, none⟩)), (3, [], .pointer (some ⟨b247, 0, none⟩))]) _ := (Hb).add (hv 3 (by decide) (by decide) 85 rfl)
    obtain ⟨X, hX⟩ : ∃ X, X = fpl [Ent.own 31 tyDeclared ([y257, y260, (TDeclared.mk y242.Long true y242.Origin y242.Attached y242.Layer y242.Weight y242.Order)] : List TDeclared) (yg256 3 0)] := ⟨_, rfl⟩
    have hS : SH M X w [Ent.own 31 tyDeclared ([y257, y260, (TDeclared.mk y242.Long true y242.Origin y242.Attached y242.Layer y242.Weight y242.Order)] : List TDeclared) (yg256 3 0)] w := by rw [hX]; exact hS0
    refine Stp.mono (o_evs [] (.slice (yg256 3 0).a 3 (yg256 3 0).c) none [] H rfl (by kernel_rfl) (fun q e => by cases e)) ?_
    rintro v w2 ⟨rfl, hq⟩
    replace hS : SH M X w [Ent.own 31 tyDeclared ([y257, y260, (TDeclared.mk y242.Long true y242.Origin y242.Attached y242.Layer y242.Weight y242.Order)] : List TDeclared) (yg256 3 0)] _ := hS.below hq.below
    rw [hX] at hS
    exact ⟨gL [], fun _ _ => rfl, hS.sel [0] rfl⟩
  have H267 : Fr 279 [(4, [], .slice (yg256 3 0).a 3 (yg256 3 0).c), (1, [], .bool z3), (2, [], .pointer (some ⟨b233, 0, none⟩))] _ := (FrG.add (FrG.keep (ks := [1, 2]) H266 (by kernel_rfl)) (hv 4 4 rfl))
  replace hS : SH M X w [Ent.im tyValue y257.Long.Value (yg256 0 0), Ent.im tyValue y260.Long.Value (yg256 1 0), Ent.own 31 tyDeclared ([y257, y260, (TDeclared.mk y242.Long true y242.Origin y242.Attached y242.Layer y242.Weight y242.Order)] : List TDeclared) (yg256 3 0), Ent.blk b247 [.string ⟨⟨y242.Long.Name⟩⟩, .slice g243.a y242.Long.Value.length g243.c, .string ⟨⟨y242.Long.Whole⟩⟩, .bool true, .int .u8 y242.Origin, .bool y242.Attached, .int .i64 y242.Layer, .int .i64 y242.Weight.e0, .int .i64 y242.Weight.e1, .int .i64 y242.Weight.e2, .int .i64 y242.Order], Ent.im tyValue y242.Long.Value g243, Ent.blk b233 [.string ⟨⟨y228.Long.Name⟩⟩, .slice g229.a y228.Long.Value.length g229.c, .string ⟨⟨y228.Long.Whole⟩⟩, .bool true, .int .u8 y228.Origin, .bool y228.Attached, .int .i64 y228.Layer, .int .i64 y228.Weight.e0, .int .i64 y228.Weight.e1, .int .i64 y228.Weight.e2, .int .i64 y228.Order], Ent.im tyValue y228.Long.Value g229, gE0] _ := hS
  clear hv H266
  generalize yg256 3 0 = g268 at H267 hS
  generalize yg256 0 0 = g269 at H267 hS
  generalize yg256 1 0 = g270 at H267 hS
  replace hS : SH M X w [Ent.own 31 tyDeclared ([y257, y260, (TDeclared.mk y242.Long true y242.Origin y242.Attached y242.Layer y242.Weight y242.Order)] : List TDeclared) g268, Ent.blk b233 [.string ⟨⟨y228.Long.Name⟩⟩, .slice g229.a y228.Long.Value.length g229.c, .string ⟨⟨y228.Long.Whole⟩⟩, .bool true, .int .u8 y228.Origin, .bool y228.Attached, .int .i64 y228.Layer, .int .i64 y228.Weight.e0, .int .i64 y228.Weight.e1, .int .i64 y228.Weight.e2, .int .i64 y228.Order], Ent.im tyValue y228.Long.Value g229, gE0] _ := hS.sel [2, 5, 6, 7] rfl
  refine w_seq ?_
  refine wl_start ?_
  obtain ⟨y271, hy271, hm⟩ := bindE hm
  have hd := hS.hand [] [0, 1, 2, 3] rfl rfl
  refine m_stp [86, 1, 2, 4] [(1, [], .bool z3), (2, [], .pointer (some ⟨b233, 0, none⟩)), (4, [], .slice g268.a 3 g268.c)] H267 rfl rfl rfl rfl (o_callx H267 rfl rfl (law31_of_ok m _ _ _ _ hy271 _ _ hd)) (fun _ => rfl) fun _ wd274 v H275 hq => ?_
  clear H267 hd
  obtain ⟨g272, rfl, hq⟩ := hq
  replace hS : SH M X w [Ent.im tyValue y271.Long.Value g272, Ent.own 31 tyDeclared ([y257, y260, (TDeclared.mk y242.Long true y242.Origin y242.Attached y242.Layer y242.Weight y242.Order)] : List TDeclared) g268, Ent.blk b233 [.string ⟨⟨y228.Long.Name⟩⟩, .slice g229.a y228.Long.Value.length g229.c, .string ⟨⟨y228.Long.Whole⟩⟩, .bool true, .int .u8 y228.Origin, .bool y228.Attached, .int .i64 y228.Layer, .int .i64 y228.Weight.e0, .int .i64 y228.Weight.e1, .int .i64 y228.Weight.e2, .int .i64 y228.Order], Ent.im tyValue y228.Long.Value g229, gE0] _ := hS.join [] [0, 1, 2, 3] rfl rfl hq
  clear hq
  have hd := hS.hand [] [0, 1, 2, 3, 4] rfl rfl
  refine m_stp [5, 1, 2, 4, 86] [(1, [], .bool z3), (2, [], .pointer (some ⟨b233, 0, none⟩)), (4, [], .slice g268.a 3 g268.c), (86, [], .agg ⟨[.string ⟨⟨y271.Long.Name⟩⟩, .slice g272.a y271.Long.Value.length g272.c, .string ⟨⟨y271.Long.Whole⟩⟩, .bool y271.Important, .int .u8 y271.Origin, .bool y271.Attached, .int .i64 y271.Layer, .int .i64 y271.Weight.e0, .int .i64 y271.Weight.e1, .int .i64 y271.Weight.e2, .int .i64 y271.Order]⟩)] H275 rfl rfl rfl rfl (o_alloc [.string ⟨⟨[]⟩⟩, .slice none 0 0, .string ⟨⟨[]⟩⟩, .bool false, .int .u8 0, .bool false, .int .i64 0, .int .i64 0, .int .i64 0, .int .i64 0, .int .i64 0] (z := .agg ⟨[.string ⟨⟨[]⟩⟩, .slice none 0 0, .string ⟨⟨[]⟩⟩, .bool false, .int .u8 0, .bool false, .int .i64 0, .int .i64 0, .int .i64 0, .int .i64 0, .int .i64 0]⟩) hd (by kernel_rfl) rfl) (fun _ => rfl) fun _ wd277 v H278 hq => ?_
  clear H275 hd
  obtain ⟨b276, rfl, hq⟩ := hq
  replace hS : SH M X w [Ent.blk b276 [.string ⟨⟨[]⟩⟩, .slice none 0 0, .string ⟨⟨[]⟩⟩, .bool false, .int .u8 0, .bool false, .int .i64 0, .int .i64 0, .int .i64 0, .int .i64 0, .int .i64 0], Ent.im tyValue y271.Long.Value g272, Ent.own 31 tyDeclared ([y257, y260, (TDeclared.mk y242.Long true y242.Origin y242.Attached y242.Layer y242.Weight y242.Order)] : List TDeclared) g268, Ent.blk b233 [.string ⟨⟨y228.Long.Name⟩⟩, .slice g229.a y228.Long.Value.length g229.c, .string ⟨⟨y228.Long.Whole⟩⟩, .bool true, .int .u8 y228.Origin, .bool y228.Attached, .int .i64 y228.Layer, .int .i64 y228.Weight.e0, .int .i64 y228.Weight.e1, .int .i64 y228.Weight.e2, .int .i64 y228.Order], Ent.im tyValue y228.Long.Value g229, gE0] _ := hS.join [] [0, 1, 2, 3, 4] rfl rfl hq
  clear hq
  have hd := hS.hand [0] [1, 2, 3, 4, 5] rfl rfl
  refine m_stp0 [1, 2, 4, 5] [(1, [], .bool z3), (2, [], .pointer (some ⟨b233, 0, none⟩)), (4, [], .slice g268.a 3 g268.c), (5, [], .pointer (some ⟨b276, 0, none⟩))] H278 rfl rfl rfl (o_store [.string ⟨⟨y271.Long.Name⟩⟩, .slice g272.a y271.Long.Value.length g272.c, .string ⟨⟨y271.Long.Whole⟩⟩, .bool y271.Important, .int .u8 y271.Origin, .bool y271.Attached, .int .i64 y271.Layer, .int .i64 y271.Weight.e0, .int .i64 y271.Weight.e1, .int .i64 y271.Weight.e2, .int .i64 y271.Order] H278 hd rfl rfl (by kernel_rfl) rfl rfl rfl) rfl fun _ wd279 H280 hq => ?_
  clear H278 hd
  obtain ⟨_, hq⟩ := hq
  replace hS : SH M X w [Ent.blk b276 [.string ⟨⟨y271.Long.Name⟩⟩, .slice g272.a y271.Long.Value.length g272.c, .string ⟨⟨y271.Long.Whole⟩⟩, .bool y271.Important, .int .u8 y271.Origin, .bool y271.Attached, .int .i64 y271.Layer, .int .i64 y271.Weight.e0, .int .i64 y271.Weight.e1, .int .i64 y271.Weight.e2, .int .i64 y271.Order], Ent.im tyValue y271.Long.Value g272, Ent.own 31 tyDeclared ([y257, y260, (TDeclared.mk y242.Long true y242.Origin y242.Attached y242.Layer y242.Weight y242.Order)] : List TDeclared) g268, Ent.blk b233 [.string ⟨⟨y228.Long.Name⟩⟩, .slice g229.a y228.Long.Value.length g229.c, .string ⟨⟨y228.Long.Whole⟩⟩, .bool true, .int .u8 y228.Origin, .bool y228.Attached, .int .i64 y228.Layer, .int .i64 y228.Weight.e0, .int .i64 y228.Weight.e1, .int .i64 y228.Weight.e2, .int .i64 y228.Order], Ent.im tyValue y228.Long.Value g229, gE0] _ := hS.join [0] [1, 2, 3, 4, 5] rfl rfl hq
  clear hq
  refine wl_end rfl ?_
  refine w_seq ?_
  refine wl_start ?_
  refine wl_batch 0 2 [] [1, 2, 4, 5, 88] [(1, [], .bool z3), (2, [], .pointer (some ⟨b233, 0, none⟩)), (4, [], .slice g268.a 3 g268.c), (5, [], .pointer (some ⟨b276, 0, none⟩)), (88, [], .pointer (some ⟨b276, 2, none⟩))] [] H280 (by decide) (by kernel_rfl) trivial fun _ wd281 H282 hb => ?_
  clear H280
  replace hS := hS.below hb
  clear hb
  have hd := hS.hand [0] [1, 2, 3, 4, 5] rfl rfl
  refine m_stp0 [1, 2, 4, 5] [(1, [], .bool z3), (2, [], .pointer (some ⟨b233, 0, none⟩)), (4, [], .slice g268.a 3 g268.c), (5, [], .pointer (some ⟨b276, 0, none⟩))] H282 rfl rfl rfl (o_store [.string ⟨⟨y271.Long.Name⟩⟩, .slice g272.a y271.Long.Value.length g272.c, .string ⟨⟨[109, 97, 114, 103, 105, 110]⟩⟩, .bool y271.Important, .int .u8 y271.Origin, .bool y271.Attached, .int .i64 y271.Layer, .int .i64 y271.Weight.e0, .int .i64 y271.Weight.e1, .int .i64 y271.Weight.e2, .int .i64 y271.Order] H282 hd rfl rfl (by kernel_rfl) rfl rfl rfl) rfl fun _ wd283 H284 hq => ?_
  clear H282 hd
  obtain ⟨_, hq⟩ := hq
  replace hS : SH M X w [Ent.blk b276 [.string ⟨⟨y271.Long.Name⟩⟩, .slice g272.a y271.Long.Value.length g272.c, .string ⟨⟨[109, 97, 114, 103, 105, 110]⟩⟩, .bool y271.Important, .int .u8 y271.Origin, .bool y271.Attached, .int .i64 y271.Layer, .int .i64 y271.Weight.e0, .int .i64 y271.Weight.e1, .int .i64 y271.Weight.e2, .int .i64 y271.Order], Ent.im tyValue y271.Long.Value g272, Ent.own 31 tyDeclared ([y257, y260, (TDeclared.mk y242.Long true y242.Origin y242.Attached y242.Layer y242.Weight y242.Order)] : List TDeclared) g268, Ent.blk b233 [.string ⟨⟨y228.Long.Name⟩⟩, .slice g229.a y228.Long.Value.length g229.c, .string ⟨⟨y228.Long.Whole⟩⟩, .bool true, .int .u8 y228.Origin, .bool y228.Attached, .int .i64 y228.Layer, .int .i64 y228.Weight.e0, .int .i64 y228.Weight.e1, .int .i64 y228.Weight.e2, .int .i64 y228.Order], Ent.im tyValue y228.Long.Value g229, gE0] _ := hS.join [0] [1, 2, 3, 4, 5] rfl rfl hq
  clear hq
  refine wl_end rfl ?_
  obtain ⟨ho288, hm⟩ := chkE hm
  obtain ⟨q289, hq289, hm⟩ := letE hm
  obtain ⟨ho293, hm⟩ := chkE hm
  obtain ⟨q294, hq294, hm⟩ := letE hm
  obtain ⟨y296, hy296, hm⟩ := bindE hm
  obtain ⟨ho297, hm⟩ := chkE hm
  obtain ⟨y298, hy298, hm⟩ := bindE hm
  obtain ⟨ho299, hm⟩ := chkE hm
  obtain ⟨y300, hy300, hm⟩ := bindE hm
  obtain ⟨y305, hy305, hm⟩ := bindE hm
  obtain ⟨ho306, hm⟩ := chkE hm
  obtain ⟨y307, hy307, hm⟩ := bindE hm
  obtain ⟨y310, hy310, hm⟩ := bindE hm
  obtain ⟨y315, hy315, hm⟩ := bindE hm
  obtain ⟨x316, hx316, hm⟩ := letE hm
  obtain ⟨ho317, hm⟩ := chkE hm
  obtain ⟨y318, hy318, hm⟩ := bindE hm
  obtain ⟨y323, hy323, hm⟩ := bindE hm
  obtain ⟨ho324, hm⟩ := chkE hm
  obtain ⟨y325, hy325, hm⟩ := bindE hm
  refine s_drawS (base := [(1, [], .bool z3), (2, [], .pointer (some ⟨b233, 0, none⟩)), (4, [], .slice g268.a 3 g268.c), (5, [], .pointer (some ⟨b276, 0, none⟩))]) (L := [Ent.blk b276 [.string ⟨⟨y271.Long.Name⟩⟩, .slice g272.a y271.Long.Value.length g272.c, .string ⟨⟨[109, 97, 114, 103, 105, 110]⟩⟩, .bool y271.Important, .int .u8 y271.Origin, .bool y271.Attached, .int .i64 y271.Layer, .int .i64 y271.Weight.e0, .int .i64 y271.Weight.e1, .int .i64 y271.Weight.e2, .int .i64 y271.Order], Ent.im tyValue y271.Long.Value g272, Ent.own 31 tyDeclared ([y257, y260, (TDeclared.mk y242.Long true y242.Origin y242.Attached y242.Layer y242.Weight y242.Order)] : List TDeclared) g268, Ent.blk b233 [.string ⟨⟨y228.Long.Name⟩⟩, .slice g229.a y228.Long.Value.length g229.c, .string ⟨⟨y228.Long.Whole⟩⟩, .bool true, .int .u8 y228.Origin, .bool y228.Attached, .int .i64 y228.Layer, .int .i64 y228.Weight.e0, .int .i64 y228.Weight.e1, .int .i64 y228.Weight.e2, .int .i64 y228.Order], Ent.im tyValue y228.Long.Value g229, gE0]) 32 6 (fun yg285 => [.slice (yg285 0 0).a 0 (yg285 0 0).c, .slice g268.a 3 g268.c, .slice (yg285 2 0).a q289.length (yg285 2 0).c, .agg ⟨[.string ⟨⟨y228.Long.Name⟩⟩, .slice g229.a y228.Long.Value.length g229.c, .string ⟨⟨y228.Long.Whole⟩⟩, .bool true, .int .u8 y228.Origin, .bool y228.Attached, .int .i64 y228.Layer, .int .i64 y228.Weight.e0, .int .i64 y228.Weight.e1, .int .i64 y228.Weight.e2, .int .i64 y228.Order]⟩, .slice (yg285 4 0).a 1 (yg285 4 0).c, .slice (yg285 5 0).a q294.length (yg285 5 0).c, .bool y296, .bool y296, .slice g268.a 3 g268.c, .bool y298, .bool (cond y296 y298 false), .bool (cond y296 y298 false), .agg ⟨[.string ⟨⟨y300.Long.Name⟩⟩, .slice (yg285 12 0).a y300.Long.Value.length (yg285 12 0).c, .string ⟨⟨y300.Long.Whole⟩⟩, .bool y300.Important, .int .u8 y300.Origin, .bool y300.Attached, .int .i64 y300.Layer, .int .i64 y300.Weight.e0, .int .i64 y300.Weight.e1, .int .i64 y300.Weight.e2, .int .i64 y300.Order]⟩, .agg ⟨[.string ⟨⟨y271.Long.Name⟩⟩, .slice g272.a y271.Long.Value.length g272.c, .string ⟨⟨[109, 97, 114, 103, 105, 110]⟩⟩, .bool y271.Important, .int .u8 y271.Origin, .bool y271.Attached, .int .i64 y271.Layer, .int .i64 y271.Weight.e0, .int .i64 y271.Weight.e1, .int .i64 y271.Weight.e2, .int .i64 y271.Order]⟩, .slice (yg285 14 0).a 2 (yg285 14 0).c, .bool y305, .bool (cond (cond y296 y298 false) y305 false), .bool (cond (cond y296 y298 false) y305 false), .agg ⟨[.string ⟨⟨y307.Long.Name⟩⟩, .slice (yg285 18 0).a y307.Long.Value.length (yg285 18 0).c, .string ⟨⟨y307.Long.Whole⟩⟩, .bool y307.Important, .int .u8 y307.Origin, .bool y307.Attached, .int .i64 y307.Layer, .int .i64 y307.Weight.e0, .int .i64 y307.Weight.e1, .int .i64 y307.Weight.e2, .int .i64 y307.Order]⟩, .agg ⟨[.string ⟨⟨y310.Long.Name⟩⟩, .slice (yg285 19 0).a y310.Long.Value.length (yg285 19 0).c, .string ⟨⟨y310.Long.Whole⟩⟩, .bool y310.Important, .int .u8 y310.Origin, .bool y310.Attached, .int .i64 y310.Layer, .int .i64 y310.Weight.e0, .int .i64 y310.Weight.e1, .int .i64 y310.Weight.e2, .int .i64 y310.Order]⟩, .slice (yg285 20 0).a 2 (yg285 20 0).c, .bool y315, .bool x316, .bool x316, .agg ⟨[.string ⟨⟨y318.Long.Name⟩⟩, .slice (yg285 24 0).a y318.Long.Value.length (yg285 24 0).c, .string ⟨⟨y318.Long.Whole⟩⟩, .bool y318.Important, .int .u8 y318.Origin, .bool y318.Attached, .int .i64 y318.Layer, .int .i64 y318.Weight.e0, .int .i64 y318.Weight.e1, .int .i64 y318.Weight.e2, .int .i64 y318.Order]⟩, .slice (yg285 25 0).a 1 (yg285 25 0).c, .bool y323, .bool (cond x316 y323 false), .bool (cond x316 y323 false), .bool y325, .bool (cond (cond x316 y323 false) y325 false), .bool (cond (cond x316 y323 false) y325 false)]) (fun yg285 => [[Ent.own 31 tyDeclared ([] : List TDeclared) (yg285 0 0)], [], [Ent.own 31 tyDeclared q289 (yg285 2 0)], [], [Ent.own 31 tyDeclared ([(TDeclared.mk y228.Long true y228.Origin y228.Attached y228.Layer y228.Weight y228.Order)] : List TDeclared) (yg285 4 0)], [Ent.own 31 tyDeclared q294 (yg285 5 0)], [], [], [], [], [], [], [Ent.im tyValue y300.Long.Value (yg285 12 0)], [], [Ent.own 31 tyDeclared ([y300, (TDeclared.mk (TLong.mk y271.Long.Name y271.Long.Value [109, 97, 114, 103, 105, 110]) y271.Important y271.Origin y271.Attached y271.Layer y271.Weight y271.Order)] : List TDeclared) (yg285 14 0)], [], [], [], [Ent.im tyValue y307.Long.Value (yg285 18 0)], [Ent.im tyValue y310.Long.Value (yg285 19 0)], [Ent.own 31 tyDeclared ([y307, y310] : List TDeclared) (yg285 20 0)], [], [], [], [Ent.im tyValue y318.Long.Value (yg285 24 0)], [Ent.own 31 tyDeclared ([y318] : List TDeclared) (yg285 25 0)], [], [], [], [], [], []]) [[], [34], [0, 34], [35, 36], [36], [2, 4], [5, 37], [], [34], [34, 37], [], [], [], [32, 33], [12, 33], [14, 37], [], [], [], [], [18, 19], [20, 37], [], [], [], [24], [25, 37], [], [], [37], [], []] [[], [], [0], [], [], [2], [], [], [], [], [], [], [], [], [], [], [], [], [], [], [], [], [], [], [], [], [], [], [], [], [], []] [[0], [1], [0, 1, 2], [3], [3, 4], [0, 1, 2, 3, 4, 5], [0, 1, 2, 3, 4, 5, 6], [0, 1, 2, 3, 4, 5, 6, 7], [0, 1, 2, 3, 4, 5, 6, 7, 8], [0, 1, 2, 3, 4, 5, 6, 7, 8, 9], [0, 1, 2, 3, 4, 5, 6, 7, 8, 9, 10], [0, 1, 2, 3, 4, 5, 6, 7, 8, 9, 10, 11], [0, 1, 2, 3, 4, 5, 6, 7, 8, 9, 10, 11, 12], [0, 1, 2, 3, 4, 5, 6, 7, 8, 9, 10, 11, 13], [0, 1, 2, 3, 4, 5, 6, 7, 8, 9, 10, 11, 12, 13, 14], [0, 1, 2, 3, 4, 5, 6, 7, 8, 9, 10, 11, 12, 13, 14, 15], [0, 1, 2, 3, 4, 5, 6, 7, 8, 9, 10, 11, 12, 13, 14, 15, 16], [0, 1, 2, 3, 4, 5, 6, 7, 8, 9, 10, 11, 12, 13, 14, 15, 16, 17], [0, 1, 2, 3, 4, 5, 6, 7, 8, 9, 10, 11, 12, 13, 14, 15, 16, 17, 18], [0, 1, 2, 3, 4, 5, 6, 7, 8, 9, 10, 11, 12, 13, 14, 15, 16, 17, 19], [0, 1, 2, 3, 4, 5, 6, 7, 8, 9, 10, 11, 12, 13, 14, 15, 16, 17, 18, 19, 20], [0, 1, 2, 3, 4, 5, 6, 7, 8, 9, 10, 11, 12, 13, 14, 15, 16, 17, 18, 19, 20, 21], [0, 1, 2, 3, 4, 5, 6, 7, 8, 9, 10, 11, 12, 13, 14, 15, 16, 17, 18, 19, 20, 21, 22], [0, 1, 2, 3, 4, 5, 6, 7, 8, 9, 10, 11, 12, 13, 14, 15, 16, 17, 18, 19, 20, 21, 22, 23], [0, 1, 2, 3, 4, 5, 6, 7, 8, 9, 10, 11, 12, 13, 14, 15, 16, 17, 18, 19, 20, 21, 22, 23, 24], [0, 1, 2, 3, 4, 5, 6, 7, 8, 9, 10, 11, 12, 13, 14, 15, 16, 17, 18, 19, 20, 21, 22, 23, 24, 25], [0, 1, 2, 3, 4, 5, 6, 7, 8, 9, 10, 11, 12, 13, 14, 15, 16, 17, 18, 19, 20, 21, 22, 23, 24, 25, 26], [0, 1, 2, 3, 4, 5, 6, 7, 8, 9, 10, 11, 12, 13, 14, 15, 16, 17, 18, 19, 20, 21, 22, 23, 24, 25, 26, 27], [0, 1, 2, 3, 4, 5, 6, 7, 8, 9, 10, 11, 12, 13, 14, 15, 16, 17, 18, 19, 20, 21, 22, 23, 24, 25, 26, 27, 28], [0, 1, 2, 3, 4, 5, 6, 7, 8, 9, 10, 11, 12, 13, 14, 15, 16, 17, 18, 19, 20, 21, 22, 23, 24, 25, 26, 27, 28, 29], [0, 1, 2, 3, 4, 5, 6, 7, 8, 9, 10, 11, 12, 13, 14, 15, 16, 17, 18, 19, 20, 21, 22, 23, 24, 25, 26, 27, 28, 29, 30], [0, 1, 2, 3, 4, 5, 6, 7, 8, 9, 10, 11, 12, 13, 14, 15, 16, 17, 18, 19, 20, 21, 22, 23, 24, 25, 26, 27, 28, 29, 30, 31]] [] (FrG.keep (ks := [1, 2, 4, 5]) H284 (by kernel_rfl)) (fun _ _ h => by cases h) (by kernel_rfl) hS (by kernel_rfl) rfl rfl (by kernel_rfl) (by kernel_rfl) (by kernel_rfl) ⟨trivial, trivial, trivial, trivial, trivial, trivial, trivial, trivial, ⟨by kernel_rfl, fun _ => congrArg Value.bool ho297⟩, ⟨by kernel_rfl, fun _ => congrArg Value.bool ho297⟩, trivial, trivial, ⟨by kernel_rfl, fun _ => congrArg Value.bool ho299⟩, ⟨by kernel_rfl, fun _ => congrArg Value.bool ho299⟩, ⟨by kernel_rfl, fun _ => congrArg Value.bool ho299⟩, ⟨by kernel_rfl, fun _ => congrArg Value.bool ho299⟩, trivial, trivial, ⟨by kernel_rfl, fun _ => congrArg Value.bool ho306⟩, ⟨by kernel_rfl, fun _ => congrArg Value.bool ho306⟩, ⟨by kernel_rfl, fun _ => congrArg Value.bool ho306⟩, ⟨by kernel_rfl, fun _ => congrArg Value.bool ho306⟩, trivial, trivial, ⟨by kernel_rfl, fun _ => congrArg Value.bool ho317⟩, ⟨by kernel_rfl, fun _ => congrArg Value.bool ho317⟩, ⟨by kernel_rfl, fun _ => congrArg Value.bool ho317⟩, trivial, trivial, ⟨by kernel_rfl, fun _ => congrArg Value.bool ho324⟩, trivial, trivial, trivial⟩ ?hloc_yg285 ?hstep_yg285 fun _ wd326 yg285 H327 hv hS => ?hK_yg285
  case hloc_yg285 => exact ⟨(fun yg285 i g hi => by have h0 : updC yg285 i g 0 = yg285 0 := updC_out hi rfl; exact ⟨(show (.slice ((updC yg285 i g) 0 0).a 0 ((updC yg285 i g) 0 0).c : Value) = .slice (yg285 0 0).a 0 (yg285 0 0).c by simp only [h0]), (show ([Ent.own 31 tyDeclared ([] : List TDeclared) ((updC yg285 i g) 0 0)] : List Ent) = [Ent.own 31 tyDeclared ([] : List TDeclared) (yg285 0 0)] by simp only [h0])⟩), (fun _ _ _ _ => ⟨rfl, rfl⟩), (fun yg285 i g hi => by have h2 : updC yg285 i g 2 = yg285 2 := updC_out hi rfl; exact ⟨(show (.slice ((updC yg285 i g) 2 0).a q289.length ((updC yg285 i g) 2 0).c : Value) = .slice (yg285 2 0).a q289.length (yg285 2 0).c by simp only [h2]), (show ([Ent.own 31 tyDeclared q289 ((updC yg285 i g) 2 0)] : List Ent) = [Ent.own 31 tyDeclared q289 (yg285 2 0)] by simp only [h2])⟩), (fun _ _ _ _ => ⟨rfl, rfl⟩), (fun yg285 i g hi => by have h4 : updC yg285 i g 4 = yg285 4 := updC_out hi rfl; exact ⟨(show (.slice ((updC yg285 i g) 4 0).a 1 ((updC yg285 i g) 4 0).c : Value) = .slice (yg285 4 0).a 1 (yg285 4 0).c by simp only [h4]), (show ([Ent.own 31 tyDeclared ([(TDeclared.mk y228.Long true y228.Origin y228.Attached y228.Layer y228.Weight y228.Order)] : List TDeclared) ((updC yg285 i g) 4 0)] : List Ent) = [Ent.own 31 tyDeclared ([(TDeclared.mk y228.Long true y228.Origin y228.Attached y228.Layer y228.Weight y228.Order)] : List TDeclared) (yg285 4 0)] by simp only [h4])⟩), (fun yg285 i g hi => by have h5 : updC yg285 i g 5 = yg285 5 := updC_out hi rfl; exact ⟨(show (.slice ((updC yg285 i g) 5 0).a q294.length ((updC yg285 i g) 5 0).c : Value) = .slice (yg285 5 0).a q294.length (yg285 5 0).c by simp only [h5]), (show ([Ent.own 31 tyDeclared q294 ((updC yg285 i g) 5 0)] : List Ent) = [Ent.own 31 tyDeclared q294 (yg285 5 0)] by simp only [h5])⟩), (fun _ _ _ _ => ⟨rfl, rfl⟩), (fun _ _ _ _ => ⟨rfl, rfl⟩), (fun _ _ _ _ => ⟨rfl, rfl⟩), (fun _ _ _ _ => ⟨rfl, rfl⟩), (fun _ _ _ _ => ⟨rfl, rfl⟩), (fun _ _ _ _ => ⟨rfl, rfl⟩), (fun yg285 i g hi => by have h12 : updC yg285 i g 12 = yg285 12 := updC_out hi rfl; exact ⟨(show (.agg ⟨[.string ⟨⟨y300.Long.Name⟩⟩, .slice ((updC yg285 i g) 12 0).a y300.Long.Value.length ((updC yg285 i g) 12 0).c, .string ⟨⟨y300.Long.Whole⟩⟩, .bool y300.Important, .int .u8 y300.Origin, .bool y300.Attached, .int .i64 y300.Layer, .int .i64 y300.Weight.e0, .int .i64 y300.Weight.e1, .int .i64 y300.Weight.e2, .int .i64 y300.Order]⟩ : Value) = .agg ⟨[.string ⟨⟨y300.Long.Name⟩⟩, .slice (yg285 12 0).a y300.Long.Value.length (yg285 12 0).c, .string ⟨⟨y300.Long.Whole⟩⟩, .bool y300.Important, .int .u8 y300.Origin, .bool y300.Attached, .int .i64 y300.Layer, .int .i64 y300.Weight.e0, .int .i64 y300.Weight.e1, .int .i64 y300.Weight.e2, .int .i64 y300.Order]⟩ by simp only [h12]), (show ([Ent.im tyValue y300.Long.Value ((updC yg285 i g) 12 0)] : List Ent) = [Ent.im tyValue y300.Long.Value (yg285 12 0)] by simp only [h12])⟩), (fun _ _ _ _ => ⟨rfl, rfl⟩), (fun yg285 i g hi => by have h14 : updC yg285 i g 14 = yg285 14 := updC_out hi rfl; exact ⟨(show (.slice ((updC yg285 i g) 14 0).a 2 ((updC yg285 i g) 14 0).c : Value) = .slice (yg285 14 0).a 2 (yg285 14 0).c by simp only [h14]), (show ([Ent.own 31 tyDeclared ([y300, (TDeclared.mk (TLong.mk y271.Long.Name y271.Long.Value [109, 97, 114, 103, 105, 110]) y271.Important y271.Origin y271.Attached y271.Layer y271.Weight y271.Order)] : List TDeclared) ((updC yg285 i g) 14 0)] : List Ent) = [Ent.own 31 tyDeclared ([y300, (TDeclared.mk (TLong.mk y271.Long.Name y271.Long.Value [109, 97, 114, 103, 105, 110]) y271.Important y271.Origin y271.Attached y271.Layer y271.Weight y271.Order)] : List TDeclared) (yg285 14 0)] by simp only [h14])⟩), (fun _ _ _ _ => ⟨rfl, rfl⟩), (fun _ _ _ _ => ⟨rfl, rfl⟩), (fun _ _ _ _ => ⟨rfl, rfl⟩), (fun yg285 i g hi => by have h18 : updC yg285 i g 18 = yg285 18 := updC_out hi rfl; exact ⟨(show (.agg ⟨[.string ⟨⟨y307.Long.Name⟩⟩, .slice ((updC yg285 i g) 18 0).a y307.Long.Value.length ((updC yg285 i g) 18 0).c, .string ⟨⟨y307.Long.Whole⟩⟩, .bool y307.Important, .int .u8 y307.Origin, .bool y307.Attached, .int .i64 y307.Layer, .int .i64 y307.Weight.e0, .int .i64 y307.Weight.e1, .int .i64 y307.Weight.e2, .int .i64 y307.Order]⟩ : Value) = .agg ⟨[.string ⟨⟨y307.Long.Name⟩⟩, .slice (yg285 18 0).a y307.Long.Value.length (yg285 18 0).c, .string ⟨⟨y307.Long.Whole⟩⟩, .bool y307.Important, .int .u8 y307.Origin, .bool y307.Attached, .int .i64 y307.Layer, .int .i64 y307.Weight.e0, .int .i64 y307.Weight.e1, .int .i64 y307.Weight.e2, .int .i64 y307.Order]⟩ by simp only [h18]), (show ([Ent.im tyValue y307.Long.Value ((updC yg285 i g) 18 0)] : List Ent) = [Ent.im tyValue y307.Long.Value (yg285 18 0)] by simp only [h18])⟩), (fun yg285 i g hi => by have h19 : updC yg285 i g 19 = yg285 19 := updC_out hi rfl; exact ⟨(show (.agg ⟨[.string ⟨⟨y310.Long.Name⟩⟩, .slice ((updC yg285 i g) 19 0).a y310.Long.Value.length ((updC yg285 i g) 19 0).c, .string ⟨⟨y310.Long.Whole⟩⟩, .bool y310.Important, .int .u8 y310.Origin, .bool y310.Attached, .int .i64 y310.Layer, .int .i64 y310.Weight.e0, .int .i64 y310.Weight.e1, .int .i64 y310.Weight.e2, .int .i64 y310.Order]⟩ : Value) = .agg ⟨[.string ⟨⟨y310.Long.Name⟩⟩, .slice (yg285 19 0).a y310.Long.Value.length (yg285 19 0).c, .string ⟨⟨y310.Long.Whole⟩⟩, .bool y310.Important, .int .u8 y310.Origin, .bool y310.Attached, .int .i64 y310.Layer, .int .i64 y310.Weight.e0, .int .i64 y310.Weight.e1, .int .i64 y310.Weight.e2, .int .i64 y310.Order]⟩ by simp only [h19]), (show ([Ent.im tyValue y310.Long.Value ((updC yg285 i g) 19 0)] : List Ent) = [Ent.im tyValue y310.Long.Value (yg285 19 0)] by simp only [h19])⟩), (fun yg285 i g hi => by have h20 : updC yg285 i g 20 = yg285 20 := updC_out hi rfl; exact ⟨(show (.slice ((updC yg285 i g) 20 0).a 2 ((updC yg285 i g) 20 0).c : Value) = .slice (yg285 20 0).a 2 (yg285 20 0).c by simp only [h20]), (show ([Ent.own 31 tyDeclared ([y307, y310] : List TDeclared) ((updC yg285 i g) 20 0)] : List Ent) = [Ent.own 31 tyDeclared ([y307, y310] : List TDeclared) (yg285 20 0)] by simp only [h20])⟩), (fun _ _ _ _ => ⟨rfl, rfl⟩), (fun _ _ _ _ => ⟨rfl, rfl⟩), (fun _ _ _ _ => ⟨rfl, rfl⟩), (fun yg285 i g hi => by have h24 : updC yg285 i g 24 = yg285 24 := updC_out hi rfl; exact ⟨(show (.agg ⟨[.string ⟨⟨y318.Long.Name⟩⟩, .slice ((updC yg285 i g) 24 0).a y318.Long.Value.length ((updC yg285 i g) 24 0).c, .string ⟨⟨y318.Long.Whole⟩⟩, .bool y318.Important, .int .u8 y318.Origin, .bool y318.Attached, .int .i64 y318.Layer, .int .i64 y318.Weight.e0, .int .i64 y318.Weight.e1, .int .i64 y318.Weight.e2, .int .i64 y318.Order]⟩ : Value) = .agg ⟨[.string ⟨⟨y318.Long.Name⟩⟩, .slice (yg285 24 0).a y318.Long.Value.length (yg285 24 0).c, .string ⟨⟨y318.Long.Whole⟩⟩, .bool y318.Important, .int .u8 y318.Origin, .bool y318.Attached, .int .i64 y318.Layer, .int .i64 y318.Weight.e0, .int .i64 y318.Weight.e1, .int .i64 y318.Weight.e2, .int .i64 y318.Order]⟩ by simp only [h24]), (show ([Ent.im tyValue y318.Long.Value ((updC yg285 i g) 24 0)] : List Ent) = [Ent.im tyValue y318.Long.Value (yg285 24 0)] by simp only [h24])⟩), (fun yg285 i g hi => by have h25 : updC yg285 i g 25 = yg285 25 := updC_out hi rfl; exact ⟨(show (.slice ((updC yg285 i g) 25 0).a 1 ((updC yg285 i g) 25 0).c : Value) = .slice (yg285 25 0).a 1 (yg285 25 0).c by simp only [h25]), (show ([Ent.own 31 tyDeclared ([y318] : List TDeclared) ((updC yg285 i g) 25 0)] : List Ent) = [Ent.own 31 tyDeclared ([y318] : List TDeclared) (yg285 25 0)] by simp only [h25])⟩), (fun _ _ _ _ => ⟨rfl, rfl⟩), (fun _ _ _ _ => ⟨rfl, rfl⟩), (fun _ _ _ _ => ⟨rfl, rfl⟩), (fun _ _ _ _ => ⟨rfl, rfl⟩), (fun _ _ _ _ => ⟨rfl, rfl⟩), (fun _ _ _ _ => ⟨rfl, rfl⟩), trivial⟩
  case hstep_yg285 =>
   refine ⟨?_, ?_, ?_, ?_, ?_, ?_, ?_, ?_, ?_, ?_, ?_, ?_, ?_, ?_, ?_, ?_, ?_, ?_, ?_, ?_, ?_, ?_, ?_, ?_, ?_, ?_, ?_, ?_, ?_, ?_, ?_, ?_, trivial⟩
   ·intro o ho a w yg285 M Hb hv hO hS0
    obtain rfl := Option.some.inj ho
    have H : Fr 279 ([] ++ [(1, [], .bool z3), (2, [], .pointer (some ⟨b233, 0, none⟩)), (4, [], .slice g268.a 3 g268.c), (5, [], .pointer (some ⟨b276, 0, none⟩))]) _ := Hb
    obtain ⟨X, hX⟩ : ∃ X, X = fpl [] := ⟨_, rfl⟩
    have hS : SH M X w [] w := by rw [hX]; exact hS0
    have hd := hS.hand [] [] rfl rfl
    refine Stp.mono (o_lit0 (T := tyDeclared) (E := 31) hd (by kernel_rfl) (by kernel_rfl)) ?_
    rintro v w2 hq
    obtain ⟨g286, rfl, hq⟩ := hq
    replace hS : SH M X w [Ent.own 31 tyDeclared ([] : List TDeclared) g286] _ := hS.join [] [] rfl rfl hq
    clear hq
    rw [hX] at hS
    exact ⟨gL [g286], fun _ _ => rfl, hS.sel [0] rfl⟩
   ·intro o ho a w yg285 M Hb hv hO hS0
    obtain rfl := Option.some.inj ho
    have H : Fr 279 ([] ++ [(1, [], .bool z3), (2, [], .pointer (some ⟨b233, 0, none⟩)), (4, [], .slice g268.a 3 g268.c), (5, [], .pointer (some ⟨b276, 0, none⟩))]) _ := Hb
    obtain ⟨X, hX⟩ : ∃ X, X = fpl [Ent.own 31 tyDeclared ([y257, y260, (TDeclared.mk y242.Long true y242.Origin y242.Attached y242.Layer y242.Weight y242.Order)] : List TDeclared) g268] := ⟨_, rfl⟩
    have hS : SH M X w [Ent.own 31 tyDeclared ([y257, y260, (TDeclared.mk y242.Long true y242.Origin y242.Attached y242.Layer y242.Weight y242.Order)] : List TDeclared) g268] w := by rw [hX]; exact hS0
    refine Stp.mono (o_evs [] (.slice g268.a 3 g268.c) none [] H rfl (by kernel_rfl) (fun q e => by cases e)) ?_
    rintro v w2 ⟨rfl, hq⟩
    replace hS : SH M X w [Ent.own 31 tyDeclared ([y257, y260, (TDeclared.mk y242.Long true y242.Origin y242.Attached y242.Layer y242.Weight y242.Order)] : List TDeclared) g268] _ := hS.below hq.below
    rw [hX] at hS
    exact ⟨gL [], fun _ _ => rfl, hS.sel [0] rfl⟩
   ·intro o ho a w yg285 M Hb hv hO hS0
    obtain rfl := Option.some.inj ho
    have H : Fr 279 ([(90, [], .slice g268.a 3 g268.c), (89, [], .slice (yg285 0 0).a 0 (yg285 0 0).c)] ++ [(1, [], .bool z3), (2, [], .pointer (some ⟨b233, 0, none⟩)), (4, [], .slice g268.a 3 g268.c), (5, [], .pointer (some ⟨b276, 0, none⟩))]) _ := ((Hb).add (hv 0 (by decide) (by decide) 89 rfl)).add (hv 1 (by decide) (by decide) 90 rfl)
    obtain ⟨X, hX⟩ : ∃ X, X = fpl [Ent.own 31 tyDeclared ([] : List TDeclared) (yg285 0 0), Ent.own 31 tyDeclared ([y257, y260, (TDeclared.mk y242.Long true y242.Origin y242.Attached y242.Layer y242.Weight y242.Order)] : List TDeclared) g268] := ⟨_, rfl⟩
    have hS : SH M X w [Ent.own 31 tyDeclared ([] : List TDeclared) (yg285 0 0), Ent.own 31 tyDeclared ([y257, y260, (TDeclared.mk y242.Long true y242.Origin y242.Attached y242.Layer y242.Weight y242.Order)] : List TDeclared) g268] w := by rw [hX]; exact hS0
    have hd := hS.hand [0, 1] [] rfl rfl
    refine Stp.mono (o_app2 (T := tyDeclared) (zv := .agg ⟨[.string ⟨⟨[]⟩⟩, .slice none 0 0, .string ⟨⟨[]⟩⟩, .bool false, .int .u8 0, .bool false, .int .i64 0, .int .i64 0, .int .i64 0, .int .i64 0, .int .i64 0]⟩) (g1 := (yg285 0 0)) (g2 := g268) (l1 := ([] : List TDeclared)) (l2 := ([y257, y260, (TDeclared.mk y242.Long true y242.Origin y242.Attached y242.Layer y242.Weight y242.Order)] : List TDeclared)) q289 hq289.symm H hd rfl rfl rfl rfl rfl rfl rfl (by kernel_rfl) (by kernel_rfl) rfl rfl ho288) ?_
    rintro v w2 hq
    obtain ⟨g290, rfl, hq⟩ := hq
    replace hS : SH M X w [Ent.own 31 tyDeclared q289 g290, Ent.own 31 tyDeclared ([y257, y260, (TDeclared.mk y242.Long true y242.Origin y242.Attached y242.Layer y242.Weight y242.Order)] : List TDeclared) g268] _ := hS.join [0, 1] [] rfl rfl hq
    clear hq
    rw [hX] at hS
    exact ⟨gL [g290], fun _ _ => rfl, hS.sel [0, 1] rfl⟩
   ·intro o ho a w yg285 M Hb hv hO hS0
    obtain rfl := Option.some.inj ho
    have H : Fr 279 ([] ++ [(1, [], .bool z3), (2, [], .pointer (some ⟨b233, 0, none⟩)), (4, [], .slice g268.a 3 g268.c), (5, [], .pointer (some ⟨b276, 0, none⟩))]) _ := Hb
    obtain ⟨X, hX⟩ : ∃ X, X = fpl [Ent.blk b233 [.string ⟨⟨y228.Long.Name⟩⟩, .slice g229.a y228.Long.Value.length g229.c, .string ⟨⟨y228.Long.Whole⟩⟩, .bool true, .int .u8 y228.Origin, .bool y228.Attached, .int .i64 y228.Layer, .int .i64 y228.Weight.e0, .int .i64 y228.Weight.e1, .int .i64 y228.Weight.e2, .int .i64 y228.Order], Ent.im tyValue y228.Long.Value g229] := ⟨_, rfl⟩
    have hS : SH M X w [Ent.blk b233 [.string ⟨⟨y228.Long.Name⟩⟩, .slice g229.a y228.Long.Value.length g229.c, .string ⟨⟨y228.Long.Whole⟩⟩, .bool true, .int .u8 y228.Origin, .bool y228.Attached, .int .i64 y228.Layer, .int .i64 y228.Weight.e0, .int .i64 y228.Weight.e1, .int .i64 y228.Weight.e2, .int .i64 y228.Order], Ent.im tyValue y228.Long.Value g229] w := by rw [hX]; exact hS0
    refine Stp.mono (o_evs [(.agg ⟨[.string ⟨⟨y228.Long.Name⟩⟩, .slice g229.a y228.Long.Value.length g229.c, .string ⟨⟨y228.Long.Whole⟩⟩, .bool true, .int .u8 y228.Origin, .bool y228.Attached, .int .i64 y228.Layer, .int .i64 y228.Weight.e0, .int .i64 y228.Weight.e1, .int .i64 y228.Weight.e2, .int .i64 y228.Order]⟩)] (.agg ⟨[.string ⟨⟨y228.Long.Name⟩⟩, .slice g229.a y228.Long.Value.length g229.c, .string ⟨⟨y228.Long.Whole⟩⟩, .bool true, .int .u8 y228.Origin, .bool y228.Attached, .int .i64 y228.Layer, .int .i64 y228.Weight.e0, .int .i64 y228.Weight.e1, .int .i64 y228.Weight.e2, .int .i64 y228.Order]⟩) (some (fun wz => V.atN b233 0 [.string ⟨⟨y228.Long.Name⟩⟩, .slice g229.a y228.Long.Value.length g229.c, .string ⟨⟨y228.Long.Whole⟩⟩, .bool true, .int .u8 y228.Origin, .bool y228.Attached, .int .i64 y228.Layer, .int .i64 y228.Weight.e0, .int .i64 y228.Weight.e1, .int .i64 y228.Weight.e2, .int .i64 y228.Order] 0 wz)) [] H rfl (by kernel_rfl) (fun q e => by cases e; exact ((hS.bk 0 rfl).atD rfl))) ?_
    rintro v w2 ⟨rfl, hq⟩
    replace hS : SH M X w [Ent.blk b233 [.string ⟨⟨y228.Long.Name⟩⟩, .slice g229.a y228.Long.Value.length g229.c, .string ⟨⟨y228.Long.Whole⟩⟩, .bool true, .int .u8 y228.Origin, .bool y228.Attached, .int .i64 y228.Layer, .int .i64 y228.Weight.e0, .int .i64 y228.Weight.e1, .int .i64 y228.Weight.e2, .int .i64 y228.Order], Ent.im tyValue y228.Long.Value g229] _ := hS.below hq.below
    rw [hX] at hS
    exact ⟨gL [], fun _ _ => rfl, hS.sel [0, 1] rfl⟩
   ·intro o ho a w yg285 M Hb hv hO hS0
    obtain rfl := Option.some.inj ho
    have H : Fr 279 ([(92, [], .agg ⟨[.string ⟨⟨y228.Long.Name⟩⟩, .slice g229.a y228.Long.Value.length g229.c, .string ⟨⟨y228.Long.Whole⟩⟩, .bool true, .int .u8 y228.Origin, .bool y228.Attached, .int .i64 y228.Layer, .int .i64 y228.Weight.e0, .int .i64 y228.Weight.e1, .int .i64 y228.Weight.e2, .int .i64 y228.Order]⟩)] ++ [(1, [], .bool z3), (2, [], .pointer (some ⟨b233, 0, none⟩)), (4, [], .slice g268.a 3 g268.c), (5, [], .pointer (some ⟨b276, 0, none⟩))]) _ := (Hb).add (hv 3 (by decide) (by decide) 92 rfl)
    obtain ⟨X, hX⟩ : ∃ X, X = fpl [Ent.im tyValue y228.Long.Value g229] := ⟨_, rfl⟩
    have hS : SH M X w [Ent.im tyValue y228.Long.Value g229] w := by rw [hX]; exact hS0
    have hd := hS.hand [0] [0] rfl rfl
    refine Stp.mono (o_lit (T := tyDeclared) (E := 31) (zv := .agg ⟨[.string ⟨⟨[]⟩⟩, .slice none 0 0, .string ⟨⟨[]⟩⟩, .bool false, .int .u8 0, .bool false, .int .i64 0, .int .i64 0, .int .i64 0, .int .i64 0, .int .i64 0]⟩) [.string ⟨⟨y228.Long.Name⟩⟩, .slice g229.a y228.Long.Value.length g229.c, .string ⟨⟨y228.Long.Whole⟩⟩, .bool true, .int .u8 y228.Origin, .bool y228.Attached, .int .i64 y228.Layer, .int .i64 y228.Weight.e0, .int .i64 y228.Weight.e1, .int .i64 y228.Weight.e2, .int .i64 y228.Order] ([(TDeclared.mk y228.Long true y228.Origin y228.Attached y228.Layer y228.Weight y228.Order)] : List TDeclared) [gL [g229]] _ H hd rfl (by kernel_rfl) (by kernel_rfl) (by kernel_rfl) (by kernel_rfl) (by kernel_rfl) (by kernel_rfl) (by kernel_rfl) rfl (InnL.cons (tyDeclared_mk (hd.im 0 rfl)) InnL.nil)) ?_
    rintro v w2 hq
    obtain ⟨g291, rfl, hq⟩ := hq
    replace hS : SH M X w [Ent.own 31 tyDeclared ([(TDeclared.mk y228.Long true y228.Origin y228.Attached y228.Layer y228.Weight y228.Order)] : List TDeclared) g291, Ent.im tyValue y228.Long.Value g229] _ := hS.join [0] [0] rfl rfl hq
    clear hq
    rw [hX] at hS
    exact ⟨gL [g291], fun _ _ => rfl, hS.sel [0, 1] rfl⟩
   ·intro o ho a w yg285 M Hb hv hO hS0
    obtain rfl := Option.some.inj ho
    have H : Fr 279 ([(93, [], .slice (yg285 4 0).a 1 (yg285 4 0).c), (91, [], .slice (yg285 2 0).a q289.length (yg285 2 0).c)] ++ [(1, [], .bool z3), (2, [], .pointer (some ⟨b233, 0, none⟩)), (4, [], .slice g268.a 3 g268.c), (5, [], .pointer (some ⟨b276, 0, none⟩))]) _ := ((Hb).add (hv 2 (by decide) (by decide) 91 rfl)).add (hv 4 (by decide) (by decide) 93 rfl)
    obtain ⟨X, hX⟩ : ∃ X, X = fpl [Ent.own 31 tyDeclared q289 (yg285 2 0), Ent.own 31 tyDeclared ([(TDeclared.mk y228.Long true y228.Origin y228.Attached y228.Layer y228.Weight y228.Order)] : List TDeclared) (yg285 4 0)] := ⟨_, rfl⟩
    have hS : SH M X w [Ent.own 31 tyDeclared q289 (yg285 2 0), Ent.own 31 tyDeclared ([(TDeclared.mk y228.Long true y228.Origin y228.Attached y228.Layer y228.Weight y228.Order)] : List TDeclared) (yg285 4 0)] w := by rw [hX]; exact hS0
    have hd := hS.hand [0, 1] [] rfl rfl
    refine Stp.mono (o_app2 (T := tyDeclared) (zv := .agg ⟨[.string ⟨⟨[]⟩⟩, .slice none 0 0, .string ⟨⟨[]⟩⟩, .bool false, .int .u8 0, .bool false, .int .i64 0, .int .i64 0, .int .i64 0, .int .i64 0, .int .i64 0]⟩) (g1 := (yg285 2 0)) (g2 := (yg285 4 0)) (l1 := q289) (l2 := ([(TDeclared.mk y228.Long true y228.Origin y228.Attached y228.Layer y228.Weight y228.Order)] : List TDeclared)) q294 hq294.symm H hd rfl rfl rfl rfl rfl rfl rfl (by kernel_rfl) (by kernel_rfl) rfl rfl ho293) ?_
    rintro v w2 hq
    obtain ⟨g295, rfl, hq⟩ := hq
    replace hS : SH M X w [Ent.own 31 tyDeclared q294 g295, Ent.own 31 tyDeclared ([(TDeclared.mk y228.Long true y228.Origin y228.Attached y228.Layer y228.Weight y228.Order)] : List TDeclared) (yg285 4 0)] _ := hS.join [0, 1] [] rfl rfl hq
    clear hq
    rw [hX] at hS
    exact ⟨gL [g295], fun _ _ => rfl, hS.sel [0, 1] rfl⟩
   ·intro o ho a w yg285 M Hb hv hO hS0
    obtain rfl := Option.some.inj ho
    have H : Fr 279 ([(94, [], .slice (yg285 5 0).a q294.length (yg285 5 0).c)] ++ [(1, [], .bool z3), (2, [], .pointer (some ⟨b233, 0, none⟩)), (4, [], .slice g268.a 3 g268.c), (5, [], .pointer (some ⟨b276, 0, none⟩))]) _ := (Hb).add (hv 5 (by decide) (by decide) 94 rfl)
    obtain ⟨X, hX⟩ : ∃ X, X = fpl [Ent.own 31 tyDeclared q294 (yg285 5 0), gE0] := ⟨_, rfl⟩
    have hS : SH M X w [Ent.own 31 tyDeclared q294 (yg285 5 0), gE0] w := by rw [hX]; exact hS0
    refine Stp.mono (o_evs [(.bool y296)] (.bool y296) (some (fun wz => RetB Tryd.prog 4 ⟨[.slice (yg285 5 0).a q294.length (yg285 5 0).c, .string ⟨⟨[99, 111, 108, 111, 114]⟩⟩, .int .i64 (-1), .string ⟨⟨[105, 110, 104, 101, 114, 105, 116]⟩⟩]⟩ (.bool y296) wz)) [] H rfl (by kernel_rfl) (fun q e => by cases e; exact (law31_says_ok (g_l_ := (yg285 5 0)) m _ _ _ _ _ hy296 _ (s0im (s0im s0nil (hS.im 1 rfl)) (hS.osl 0 rfl))))) ?_
    rintro v w2 ⟨rfl, hq⟩
    replace hS : SH M X w [Ent.own 31 tyDeclared q294 (yg285 5 0), gE0] _ := hS.below hq.below
    rw [hX] at hS
    exact ⟨gL [], fun _ _ => rfl, hS.sel [0, 1] rfl⟩
   ·intro o ho a w yg285 M Hb hv hO hS0
    obtain rfl := Option.some.inj ho
    have H : Fr 279 ([(95, [], .bool y296)] ++ [(1, [], .bool z3), (2, [], .pointer (some ⟨b233, 0, none⟩)), (4, [], .slice g268.a 3 g268.c), (5, [], .pointer (some ⟨b276, 0, none⟩))]) _ := (Hb).add (hv 6 (by decide) (by decide) 95 rfl)
    obtain ⟨X, hX⟩ : ∃ X, X = fpl [] := ⟨_, rfl⟩
    have hS : SH M X w [] w := by rw [hX]; exact hS0
    refine Stp.mono (o_evs [] (.bool y296) none [] H rfl (by kernel_rfl) (fun q e => by cases e)) ?_
    rintro v w2 ⟨rfl, hq⟩
    replace hS : SH M X w [] _ := hS.below hq.below
    rw [hX] at hS
    exact ⟨gL [], fun _ _ => rfl, hS.sel [] rfl⟩
   ·intro o ho a w yg285 M Hb hv hO hS0
    obtain rfl := Option.some.inj ho
    have H : Fr 279 ([] ++ [(1, [], .bool z3), (2, [], .pointer (some ⟨b233, 0, none⟩)), (4, [], .slice g268.a 3 g268.c), (5, [], .pointer (some ⟨b276, 0, none⟩))]) _ := Hb
    obtain ⟨X, hX⟩ : ∃ X, X = fpl [Ent.own 31 tyDeclared ([y257, y260, (TDeclared.mk y242.Long true y242.Origin y242.Attached y242.Layer y242.Weight y242.Order)] : List TDeclared) g268] := ⟨_, rfl⟩
    have hS : SH M X w [Ent.own 31 tyDeclared ([y257, y260, (TDeclared.mk y242.Long true y242.Origin y242.Attached y242.Layer y242.Weight y242.Order)] : List TDeclared) g268] w := by rw [hX]; exact hS0
    refine Stp.mono (o_evs [] (.slice g268.a 3 g268.c) none [] H rfl (by kernel_rfl) (fun q e => by cases e)) ?_
    rintro v w2 ⟨rfl, hq⟩
    replace hS : SH M X w [Ent.own 31 tyDeclared ([y257, y260, (TDeclared.mk y242.Long true y242.Origin y242.Attached y242.Layer y242.Weight y242.Order)] : List TDeclared) g268] _ := hS.below hq.below
    rw [hX] at hS
    exact ⟨gL [], fun _ _ => rfl, hS.sel [0] rfl⟩
   ·intro o ho a w yg285 M Hb hv hO hS0
    obtain rfl := Option.some.inj ho
    have H : Fr 279 ([(97, [], .slice g268.a 3 g268.c)] ++ [(1, [], .bool z3), (2, [], .pointer (some ⟨b233, 0, none⟩)), (4, [], .slice g268.a 3 g268.c), (5, [], .pointer (some ⟨b276, 0, none⟩))]) _ := (Hb).add (hv 8 (by decide) (by decide) 97 rfl)
    obtain ⟨X, hX⟩ : ∃ X, X = fpl [Ent.own 31 tyDeclared ([y257, y260, (TDeclared.mk y242.Long true y242.Origin y242.Attached y242.Layer y242.Weight y242.Order)] : List TDeclared) g268, gE0] := ⟨_, rfl⟩
    have hS : SH M X w [Ent.own 31 tyDeclared ([y257, y260, (TDeclared.mk y242.Long true y242.Origin y242.Attached y242.Layer y242.Weight y242.Order)] : List TDeclared) g268, gE0] w := by rw [hX]; exact hS0
    refine Stp.mono (o_evs [(.bool y298)] (.bool y298) (some (fun wz => RetB Tryd.prog 4 ⟨[.slice g268.a 3 g268.c, .string ⟨⟨[99, 111, 108, 111, 114]⟩⟩, .int .i64 0, .string ⟨⟨[]⟩⟩]⟩ (.bool y298) wz)) [] H rfl (by kernel_rfl) (fun q e => by cases e; exact (law31_says_ok (g_l_ := g268) m _ _ _ _ _ hy298 _ (s0im (s0im s0nil (hS.im 1 rfl)) (hS.osl 0 rfl))))) ?_
    rintro v w2 ⟨rfl, hq⟩
    replace hS : SH M X w [Ent.own 31 tyDeclared ([y257, y260, (TDeclared.mk y242.Long true y242.Origin y242.Attached y242.Layer y242.Weight y242.Order)] : List TDeclared) g268, gE0] _ := hS.below hq.below
    rw [hX] at hS
    exact ⟨gL [], fun _ _ => rfl, hS.sel [0, 1] rfl⟩
   ·intro o ho a w yg285 M Hb hv hO hS0
    obtain rfl := Option.some.inj ho
    have H : Fr 279 ([(98, [], .bool y298), (96, [], .bool y296)] ++ [(1, [], .bool z3), (2, [], .pointer (some ⟨b233, 0, none⟩)), (4, [], .slice g268.a 3 g268.c), (5, [], .pointer (some ⟨b276, 0, none⟩))]) _ := ((Hb).add (hv 7 (by decide) (by decide) 96 rfl)).add (hv 9 (by decide) (by decide) 98 rfl)
    obtain ⟨X, hX⟩ : ∃ X, X = fpl [] := ⟨_, rfl⟩
    have hS : SH M X w [] w := by rw [hX]; exact hS0
    refine Stp.mono (o_evs [] (.bool (cond y296 y298 false)) none [] H rfl (by kernel_rfl) (fun q e => by cases e)) ?_
    rintro v w2 ⟨rfl, hq⟩
    replace hS : SH M X w [] _ := hS.below hq.below
    rw [hX] at hS
    exact ⟨gL [], fun _ _ => rfl, hS.sel [] rfl⟩
   ·intro o ho a w yg285 M Hb hv hO hS0
    obtain rfl := Option.some.inj ho
    have H : Fr 279 ([(99, [], .bool (cond y296 y298 false))] ++ [(1, [], .bool z3), (2, [], .pointer (some ⟨b233, 0, none⟩)), (4, [], .slice g268.a 3 g268.c), (5, [], .pointer (some ⟨b276, 0, none⟩))]) _ := (Hb).add (hv 10 (by decide) (by decide) 99 rfl)
    obtain ⟨X, hX⟩ : ∃ X, X = fpl [] := ⟨_, rfl⟩
    have hS : SH M X w [] w := by rw [hX]; exact hS0
    refine Stp.mono (o_evs [] (.bool (cond y296 y298 false)) none [] H rfl (by kernel_rfl) (fun q e => by cases e)) ?_
    rintro v w2 ⟨rfl, hq⟩
    replace hS : SH M X w [] _ := hS.below hq.below
    rw [hX] at hS
    exact ⟨gL [], fun _ _ => rfl, hS.sel [] rfl⟩
   ·intro o ho a w yg285 M Hb hv hO hS0
    obtain rfl := Option.some.inj ho
    have H : Fr 279 ([] ++ [(1, [], .bool z3), (2, [], .pointer (some ⟨b233, 0, none⟩)), (4, [], .slice g268.a 3 g268.c), (5, [], .pointer (some ⟨b276, 0, none⟩))]) _ := Hb
    obtain ⟨X, hX⟩ : ∃ X, X = fpl [] := ⟨_, rfl⟩
    have hS : SH M X w [] w := by rw [hX]; exact hS0
    have hd := hS.hand [] [] rfl rfl
    refine Stp.mono (o_callx H rfl rfl (law31_of_ok m _ _ _ _ hy300 _ _ hd)) ?_
    rintro v w2 hq
    obtain ⟨g301, rfl, hq⟩ := hq
    replace hS : SH M X w [Ent.im tyValue y300.Long.Value g301] _ := hS.join [] [] rfl rfl hq
    clear hq
    rw [hX] at hS
    exact ⟨gL [g301], fun _ _ => rfl, hS.sel [0] rfl⟩
   ·intro o ho a w yg285 M Hb hv hO hS0
    obtain rfl := Option.some.inj ho
    have H : Fr 279 ([] ++ [(1, [], .bool z3), (2, [], .pointer (some ⟨b233, 0, none⟩)), (4, [], .slice g268.a 3 g268.c), (5, [], .pointer (some ⟨b276, 0, none⟩))]) _ := Hb
    obtain ⟨X, hX⟩ : ∃ X, X = fpl [Ent.blk b276 [.string ⟨⟨y271.Long.Name⟩⟩, .slice g272.a y271.Long.Value.length g272.c, .string ⟨⟨[109, 97, 114, 103, 105, 110]⟩⟩, .bool y271.Important, .int .u8 y271.Origin, .bool y271.Attached, .int .i64 y271.Layer, .int .i64 y271.Weight.e0, .int .i64 y271.Weight.e1, .int .i64 y271.Weight.e2, .int .i64 y271.Order], Ent.im tyValue y271.Long.Value g272] := ⟨_, rfl⟩
    have hS : SH M X w [Ent.blk b276 [.string ⟨⟨y271.Long.Name⟩⟩, .slice g272.a y271.Long.Value.length g272.c, .string ⟨⟨[109, 97, 114, 103, 105, 110]⟩⟩, .bool y271.Important, .int .u8 y271.Origin, .bool y271.Attached, .int .i64 y271.Layer, .int .i64 y271.Weight.e0, .int .i64 y271.Weight.e1, .int .i64 y271.Weight.e2, .int .i64 y271.Order], Ent.im tyValue y271.Long.Value g272] w := by rw [hX]; exact hS0
    refine Stp.mono (o_evs [(.agg ⟨[.string ⟨⟨y271.Long.Name⟩⟩, .slice g272.a y271.Long.Value.length g272.c, .string ⟨⟨[109, 97, 114, 103, 105, 110]⟩⟩, .bool y271.Important, .int .u8 y271.Origin, .bool y271.Attached, .int .i64 y271.Layer, .int .i64 y271.Weight.e0, .int .i64 y271.Weight.e1, .int .i64 y271.Weight.e2, .int .i64 y271.Order]⟩)] (.agg ⟨[.string ⟨⟨y271.Long.Name⟩⟩, .slice g272.a y271.Long.Value.length g272.c, .string ⟨⟨[109, 97, 114, 103, 105, 110]⟩⟩, .bool y271.Important, .int .u8 y271.Origin, .bool y271.Attached, .int .i64 y271.Layer, .int .i64 y271.Weight.e0, .int .i64 y271.Weight.e1, .int .i64 y271.Weight.e2, .int .i64 y271.Order]⟩) (some (fun wz => V.atN b276 0 [.string ⟨⟨y271.Long.Name⟩⟩, .slice g272.a y271.Long.Value.length g272.c, .string ⟨⟨[109, 97, 114, 103, 105, 110]⟩⟩, .bool y271.Important, .int .u8 y271.Origin, .bool y271.Attached, .int .i64 y271.Layer, .int .i64 y271.Weight.e0, .int .i64 y271.Weight.e1, .int .i64 y271.Weight.e2, .int .i64 y271.Order] 0 wz)) [] H rfl (by kernel_rfl) (fun q e => by cases e; exact ((hS.bk 0 rfl).atD rfl))) ?_
    rintro v w2 ⟨rfl, hq⟩
    replace hS : SH M X w [Ent.blk b276 [.string ⟨⟨y271.Long.Name⟩⟩, .slice g272.a y271.Long.Value.length g272.c, .string ⟨⟨[109, 97, 114, 103, 105, 110]⟩⟩, .bool y271.Important, .int .u8 y271.Origin, .bool y271.Attached, .int .i64 y271.Layer, .int .i64 y271.Weight.e0, .int .i64 y271.Weight.e1, .int .i64 y271.Weight.e2, .int .i64 y271.Order], Ent.im tyValue y271.Long.Value g272] _ := hS.below hq.below
    rw [hX] at hS
    exact ⟨gL [], fun _ _ => rfl, hS.sel [0, 1] rfl⟩
   ·intro o ho a w yg285 M Hb hv hO hS0
    obtain rfl := Option.some.inj ho
    have H : Fr 279 ([(102, [], .agg ⟨[.string ⟨⟨y271.Long.Name⟩⟩, .slice g272.a y271.Long.Value.length g272.c, .string ⟨⟨[109, 97, 114, 103, 105, 110]⟩⟩, .bool y271.Important, .int .u8 y271.Origin, .bool y271.Attached, .int .i64 y271.Layer, .int .i64 y271.Weight.e0, .int .i64 y271.Weight.e1, .int .i64 y271.Weight.e2, .int .i64 y271.Order]⟩), (101, [], .agg ⟨[.string ⟨⟨y300.Long.Name⟩⟩, .slice (yg285 12 0).a y300.Long.Value.length (yg285 12 0).c, .string ⟨⟨y300.Long.Whole⟩⟩, .bool y300.Important, .int .u8 y300.Origin, .bool y300.Attached, .int .i64 y300.Layer, .int .i64 y300.Weight.e0, .int .i64 y300.Weight.e1, .int .i64 y300.Weight.e2, .int .i64 y300.Order]⟩)] ++ [(1, [], .bool z3), (2, [], .pointer (some ⟨b233, 0, none⟩)), (4, [], .slice g268.a 3 g268.c), (5, [], .pointer (some ⟨b276, 0, none⟩))]) _ := ((Hb).add (hv 12 (by decide) (by decide) 101 rfl)).add (hv 13 (by decide) (by decide) 102 rfl)
    obtain ⟨X, hX⟩ : ∃ X, X = fpl [Ent.im tyValue y300.Long.Value (yg285 12 0), Ent.im tyValue y271.Long.Value g272] := ⟨_, rfl⟩
    have hS : SH M X w [Ent.im tyValue y300.Long.Value (yg285 12 0), Ent.im tyValue y271.Long.Value g272] w := by rw [hX]; exact hS0
    have hd := hS.hand [0, 1] [0, 1] rfl rfl
    refine Stp.mono (o_lit (T := tyDeclared) (E := 31) (zv := .agg ⟨[.string ⟨⟨[]⟩⟩, .slice none 0 0, .string ⟨⟨[]⟩⟩, .bool false, .int .u8 0, .bool false, .int .i64 0, .int .i64 0, .int .i64 0, .int .i64 0, .int .i64 0]⟩) [.string ⟨⟨y300.Long.Name⟩⟩, .slice (yg285 12 0).a y300.Long.Value.length (yg285 12 0).c, .string ⟨⟨y300.Long.Whole⟩⟩, .bool y300.Important, .int .u8 y300.Origin, .bool y300.Attached, .int .i64 y300.Layer, .int .i64 y300.Weight.e0, .int .i64 y300.Weight.e1, .int .i64 y300.Weight.e2, .int .i64 y300.Order, .string ⟨⟨y271.Long.Name⟩⟩, .slice g272.a y271.Long.Value.length g272.c, .string ⟨⟨[109, 97, 114, 103, 105, 110]⟩⟩, .bool y271.Important, .int .u8 y271.Origin, .bool y271.Attached, .int .i64 y271.Layer, .int .i64 y271.Weight.e0, .int .i64 y271.Weight.e1, .int .i64 y271.Weight.e2, .int .i64 y271.Order] ([y300, (TDeclared.mk (TLong.mk y271.Long.Name y271.Long.Value [109, 97, 114, 103, 105, 110]) y271.Important y271.Origin y271.Attached y271.Layer y271.Weight y271.Order)] : List TDeclared) [gL [(yg285 12 0)], gL [g272]] _ H hd rfl (by kernel_rfl) (by kernel_rfl) (by kernel_rfl) (by kernel_rfl) (by kernel_rfl) (by kernel_rfl) (by kernel_rfl) rfl (InnL.cons (tyDeclared_mk (hd.im 0 rfl)) (InnL.cons (tyDeclared_mk (hd.im 1 rfl)) InnL.nil))) ?_
    rintro v w2 hq
    obtain ⟨g303, rfl, hq⟩ := hq
    replace hS : SH M X w [Ent.own 31 tyDeclared ([y300, (TDeclared.mk (TLong.mk y271.Long.Name y271.Long.Value [109, 97, 114, 103, 105, 110]) y271.Important y271.Origin y271.Attached y271.Layer y271.Weight y271.Order)] : List TDeclared) g303, Ent.im tyValue y300.Long.Value (yg285 12 0), Ent.im tyValue y271.Long.Value g272] _ := hS.join [0, 1] [0, 1] rfl rfl hq
    clear hq
    rw [hX] at hS
    exact ⟨gL [g303], fun _ _ => rfl, hS.sel [0, 1, 2] rfl⟩
   ·intro o ho a w yg285 M Hb hv hO hS0
    obtain rfl := Option.some.inj ho
    have H : Fr 279 ([(103, [], .slice (yg285 14 0).a 2 (yg285 14 0).c)] ++ [(1, [], .bool z3), (2, [], .pointer (some ⟨b233, 0, none⟩)), (4, [], .slice g268.a 3 g268.c), (5, [], .pointer (some ⟨b276, 0, none⟩))]) _ := (Hb).add (hv 14 (by decide) (by decide) 103 rfl)
    obtain ⟨X, hX⟩ : ∃ X, X = fpl [Ent.own 31 tyDeclared ([y300, (TDeclared.mk (TLong.mk y271.Long.Name y271.Long.Value [109, 97, 114, 103, 105, 110]) y271.Important y271.Origin y271.Attached y271.Layer y271.Weight y271.Order)] : List TDeclared) (yg285 14 0), gE0] := ⟨_, rfl⟩
    have hS : SH M X w [Ent.own 31 tyDeclared ([y300, (TDeclared.mk (TLong.mk y271.Long.Name y271.Long.Value [109, 97, 114, 103, 105, 110]) y271.Important y271.Origin y271.Attached y271.Layer y271.Weight y271.Order)] : List TDeclared) (yg285 14 0), gE0] w := by rw [hX]; exact hS0
    refine Stp.mono (o_evs [(.bool y305)] (.bool y305) (some (fun wz => RetB Tryd.prog 4 ⟨[.slice (yg285 14 0).a 2 (yg285 14 0).c, .string ⟨⟨[109, 97, 114, 103, 105, 110, 45, 116, 111, 112]⟩⟩, .int .i64 1, .string ⟨⟨[]⟩⟩]⟩ (.bool y305) wz)) [] H rfl (by kernel_rfl) (fun q e => by cases e; exact (law31_says_ok (g_l_ := (yg285 14 0)) m _ _ _ _ _ hy305 _ (s0im (s0im s0nil (hS.im 1 rfl)) (hS.osl 0 rfl))))) ?_
    rintro v w2 ⟨rfl, hq⟩
    replace hS : SH M X w [Ent.own 31 tyDeclared ([y300, (TDeclared.mk (TLong.mk y271.Long.Name y271.Long.Value [109, 97, 114, 103, 105, 110]) y271.Important y271.Origin y271.Attached y271.Layer y271.Weight y271.Order)] : List TDeclared) (yg285 14 0), gE0] _ := hS.below hq.below
    rw [hX] at hS
    exact ⟨gL [], fun _ _ => rfl, hS.sel [0, 1] rfl⟩
   ·intro o ho a w yg285 M Hb hv hO hS0
    obtain rfl := Option.some.inj ho
    have H : Fr 279 ([(104, [], .bool y305), (100, [], .bool (cond y296 y298 false))] ++ [(1, [], .bool z3), (2, [], .pointer (some ⟨b233, 0, none⟩)), (4, [], .slice g268.a 3 g268.c), (5, [], .pointer (some ⟨b276, 0, none⟩))]) _ := ((Hb).add (hv 11 (by decide) (by decide) 100 rfl)).add (hv 15 (by decide) (by decide) 104 rfl)
    obtain ⟨X, hX⟩ : ∃ X, X = fpl [] := ⟨_, rfl⟩
    have hS : SH M X w [] w := by rw [hX]; exact hS0
    refine Stp.mono (o_evs [] (.bool (cond (cond y296 y298 false) y305 false)) none [] H rfl (by kernel_rfl) (fun q e => by cases e)) ?_
    rintro v w2 ⟨rfl, hq⟩
    replace hS : SH M X w [] _ := hS.below hq.below
    rw [hX] at hS
    exact ⟨gL [], fun _ _ => rfl, hS.sel [] rfl⟩
   ·intro o ho a w yg285 M Hb hv hO hS0
    obtain rfl := Option.some.inj ho
    have H : Fr 279 ([(105, [], .bool (cond (cond y296 y298 false) y305 false))] ++ [(1, [], .bool z3), (2, [], .pointer (some ⟨b233, 0, none⟩)), (4, [], .slice g268.a 3 g268.c), (5, [], .pointer (some ⟨b276, 0, none⟩))]) _ := (Hb).add (hv 16 (by decide) (by decide) 105 rfl)
    obtain ⟨X, hX⟩ : ∃ X, X = fpl [] := ⟨_, rfl⟩
    have hS : SH M X w [] w := by rw [hX]; exact hS0
    refine Stp.mono (o_evs [] (.bool (cond (cond y296 y298 false) y305 false)) none [] H rfl (by kernel_rfl) (fun q e => by cases e)) ?_
    rintro v w2 ⟨rfl, hq⟩
    replace hS : SH M X w [] _ := hS.below hq.below
    rw [hX] at hS
    exact ⟨gL [], fun _ _ => rfl, hS.sel [] rfl⟩
   ·intro o ho a w yg285 M Hb hv hO hS0
    obtain rfl := Option.some.inj ho
    have H : Fr 279 ([] ++ [(1, [], .bool z3), (2, [], .pointer (some ⟨b233, 0, none⟩)), (4, [], .slice g268.a 3 g268.c), (5, [], .pointer (some ⟨b276, 0, none⟩))]) _ := Hb
    obtain ⟨X, hX⟩ : ∃ X, X = fpl [] := ⟨_, rfl⟩
    have hS : SH M X w [] w := by rw [hX]; exact hS0
    have hd := hS.hand [] [] rfl rfl
    refine Stp.mono (o_callx H rfl rfl (law31_of_ok m _ _ _ _ hy307 _ _ hd)) ?_
    rintro v w2 hq
    obtain ⟨g308, rfl, hq⟩ := hq
    replace hS : SH M X w [Ent.im tyValue y307.Long.Value g308] _ := hS.join [] [] rfl rfl hq
    clear hq
    rw [hX] at hS
    exact ⟨gL [g308], fun _ _ => rfl, hS.sel [0] rfl⟩
   ·intro o ho a w yg285 M Hb hv hO hS0
    obtain rfl := Option.some.inj ho
    have H : Fr 279 ([] ++ [(1, [], .bool z3), (2, [], .pointer (some ⟨b233, 0, none⟩)), (4, [], .slice g268.a 3 g268.c), (5, [], .pointer (some ⟨b276, 0, none⟩))]) _ := Hb
    obtain ⟨X, hX⟩ : ∃ X, X = fpl [] := ⟨_, rfl⟩
    have hS : SH M X w [] w := by rw [hX]; exact hS0
    have hd := hS.hand [] [] rfl rfl
    refine Stp.mono (o_callx H rfl rfl (law31_of_ok m _ _ _ _ hy310 _ _ hd)) ?_
    rintro v w2 hq
    obtain ⟨g311, rfl, hq⟩ := hq
    replace hS : SH M X w [Ent.im tyValue y310.Long.Value g311] _ := hS.join [] [] rfl rfl hq
    clear hq
    rw [hX] at hS
    exact ⟨gL [g311], fun _ _ => rfl, hS.sel [0] rfl⟩
   ·intro o ho a w yg285 M Hb hv hO hS0
    obtain rfl := Option.some.inj ho
    have H : Fr 279 ([(108, [], .agg ⟨[.string ⟨⟨y310.Long.Name⟩⟩, .slice (yg285 19 0).a y310.Long.Value.length (yg285 19 0).c, .string ⟨⟨y310.Long.Whole⟩⟩, .bool y310.Important, .int .u8 y310.Origin, .bool y310.Attached, .int .i64 y310.Layer, .int .i64 y310.Weight.e0, .int .i64 y310.Weight.e1, .int .i64 y310.Weight.e2, .int .i64 y310.Order]⟩), (107, [], .agg ⟨[.string ⟨⟨y307.Long.Name⟩⟩, .slice (yg285 18 0).a y307.Long.Value.length (yg285 18 0).c, .string ⟨⟨y307.Long.Whole⟩⟩, .bool y307.Important, .int .u8 y307.Origin, .bool y307.Attached, .int .i64 y307.Layer, .int .i64 y307.Weight.e0, .int .i64 y307.Weight.e1, .int .i64 y307.Weight.e2, .int .i64 y307.Order]⟩)] ++ [(1, [], .bool z3), (2, [], .pointer (some ⟨b233, 0, none⟩)), (4, [], .slice g268.a 3 g268.c), (5, [], .pointer (some ⟨b276, 0, none⟩))]) _ := ((Hb).add (hv 18 (by decide) (by decide) 107 rfl)).add (hv 19 (by decide) (by decide) 108 rfl)
    obtain ⟨X, hX⟩ : ∃ X, X = fpl [Ent.im tyValue y307.Long.Value (yg285 18 0), Ent.im tyValue y310.Long.Value (yg285 19 0)] := ⟨_, rfl⟩
    have hS : SH M X w [Ent.im tyValue y307.Long.Value (yg285 18 0), Ent.im tyValue y310.Long.Value (yg285 19 0)] w := by rw [hX]; exact hS0
    have hd := hS.hand [0, 1] [0, 1] rfl rfl
    refine Stp.mono (o_lit (T := tyDeclared) (E := 31) (zv := .agg ⟨[.string ⟨⟨[]⟩⟩, .slice none 0 0, .string ⟨⟨[]⟩⟩, .bool false, .int .u8 0, .bool false, .int .i64 0, .int .i64 0, .int .i64 0, .int .i64 0, .int .i64 0]⟩) [.string ⟨⟨y307.Long.Name⟩⟩, .slice (yg285 18 0).a y307.Long.Value.length (yg285 18 0).c, .string ⟨⟨y307.Long.Whole⟩⟩, .bool y307.Important, .int .u8 y307.Origin, .bool y307.Attached, .int .i64 y307.Layer, .int .i64 y307.Weight.e0, .int .i64 y307.Weight.e1, .int .i64 y307.Weight.e2, .int .i64 y307.Order, .string ⟨⟨y310.Long.Name⟩⟩, .slice (yg285 19 0).a y310.Long.Value.length (yg285 19 0).c, .string ⟨⟨y310.Long.Whole⟩⟩, .bool y310.Important, .int .u8 y310.Origin, .bool y310.Attached, .int .i64 y310.Layer, .int .i64 y310.Weight.e0, .int .i64 y310.Weight.e1, .int .i64 y310.Weight.e2, .int .i64 y310.Order] ([y307, y310] : List TDeclared) [gL [(yg285 18 0)], gL [(yg285 19 0)]] _ H hd rfl (by kernel_rfl) (by kernel_rfl) (by kernel_rfl) (by kernel_rfl) (by kernel_rfl) (by kernel_rfl) (by kernel_rfl) rfl (InnL.cons (tyDeclared_mk (hd.im 0 rfl)) (InnL.cons (tyDeclared_mk (hd.im 1 rfl)) InnL.nil))) ?_
    rintro v w2 hq
    obtain ⟨g313, rfl, hq⟩ := hq
    replace hS : SH M X w [Ent.own 31 tyDeclared ([y307, y310] : List TDeclared) g313, Ent.im tyValue y307.Long.Value (yg285 18 0), Ent.im tyValue y310.Long.Value (yg285 19 0)] _ := hS.join [0, 1] [0, 1] rfl rfl hq
    clear hq
    rw [hX] at hS
    exact ⟨gL [g313], fun _ _ => rfl, hS.sel [0, 1, 2] rfl⟩
   ·intro o ho a w yg285 M Hb hv hO hS0
    obtain rfl := Option.some.inj ho
    have H : Fr 279 ([(109, [], .slice (yg285 20 0).a 2 (yg285 20 0).c)] ++ [(1, [], .bool z3), (2, [], .pointer (some ⟨b233, 0, none⟩)), (4, [], .slice g268.a 3 g268.c), (5, [], .pointer (some ⟨b276, 0, none⟩))]) _ := (Hb).add (hv 20 (by decide) (by decide) 109 rfl)
    obtain ⟨X, hX⟩ : ∃ X, X = fpl [Ent.own 31 tyDeclared ([y307, y310] : List TDeclared) (yg285 20 0), gE0] := ⟨_, rfl⟩
    have hS : SH M X w [Ent.own 31 tyDeclared ([y307, y310] : List TDeclared) (yg285 20 0), gE0] w := by rw [hX]; exact hS0
    refine Stp.mono (o_evs [(.bool y315)] (.bool y315) (some (fun wz => RetB Tryd.prog 4 ⟨[.slice (yg285 20 0).a 2 (yg285 20 0).c, .string ⟨⟨[45, 45, 97]⟩⟩, .int .i64 0, .string ⟨⟨[]⟩⟩]⟩ (.bool y315) wz)) [] H rfl (by kernel_rfl) (fun q e => by cases e; exact (law31_says_ok (g_l_ := (yg285 20 0)) m _ _ _ _ _ hy315 _ (s0im (s0im s0nil (hS.im 1 rfl)) (hS.osl 0 rfl))))) ?_
    rintro v w2 ⟨rfl, hq⟩
    replace hS : SH M X w [Ent.own 31 tyDeclared ([y307, y310] : List TDeclared) (yg285 20 0), gE0] _ := hS.below hq.below
    rw [hX] at hS
    exact ⟨gL [], fun _ _ => rfl, hS.sel [0, 1] rfl⟩
   ·intro o ho a w yg285 M Hb hv hO hS0
    obtain rfl := Option.some.inj ho
    have H : Fr 279 ([(110, [], .bool y315), (106, [], .bool (cond (cond y296 y298 false) y305 false))] ++ [(1, [], .bool z3), (2, [], .pointer (some ⟨b233, 0, none⟩)), (4, [], .slice g268.a 3 g268.c), (5, [], .pointer (some ⟨b276, 0, none⟩))]) _ := ((Hb).add (hv 17 (by decide) (by decide) 106 rfl)).add (hv 21 (by decide) (by decide) 110 rfl)
    obtain ⟨X, hX⟩ : ∃ X, X = fpl [] := ⟨_, rfl⟩
    have hS : SH M X w [] w := by rw [hX]; exact hS0
    refine Stp.mono (o_evs [] (.bool x316) none [] H rfl (by subst hx316; kernel_rfl) (fun q e => by cases e)) ?_
    rintro v w2 ⟨rfl, hq⟩
    replace hS : SH M X w [] _ := hS.below hq.below
    rw [hX] at hS
    exact ⟨gL [], fun _ _ => rfl, hS.sel [] rfl⟩
   ·intro o ho a w yg285 M Hb hv hO hS0
    obtain rfl := Option.some.inj ho
    have H : Fr 279 ([(111, [], .bool x316)] ++ [(1, [], .bool z3), (2, [], .pointer (some ⟨b233, 0, none⟩)), (4, [], .slice g268.a 3 g268.c), (5, [], .pointer (some ⟨b276, 0, none⟩))]) _ := (Hb).add (hv 22 (by decide) (by decide) 111 rfl)
    obtain ⟨X, hX⟩ : ∃ X, X = fpl [] := ⟨_, rfl⟩
    have hS : SH M X w [] w := by rw [hX]; exact hS0
    refine Stp.mono (o_evs [] (.bool x316) none [] H rfl (by kernel_rfl) (fun q e => by cases e)) ?_
    rintro v w2 ⟨rfl, hq⟩
    replace hS : SH M X w [] _ := hS.below hq.below
    rw [hX] at hS
    exact ⟨gL [], fun _ _ => rfl, hS.sel [] rfl⟩
   ·intro o ho a w yg285 M Hb hv hO hS0
    obtain rfl := Option.some.inj ho
    have H : Fr 279 ([] ++ [(1, [], .bool z3), (2, [], .pointer (some ⟨b233, 0, none⟩)), (4, [], .slice g268.a 3 g268.c), (5, [], .pointer (some ⟨b276, 0, none⟩))]) _ := Hb
    obtain ⟨X, hX⟩ : ∃ X, X = fpl [] := ⟨_, rfl⟩
    have hS : SH M X w [] w := by rw [hX]; exact hS0
    have hd := hS.hand [] [] rfl rfl
    refine Stp.mono (o_callx H rfl rfl (law31_of_ok m _ _ _ _ hy318 _ _ hd)) ?_
    rintro v w2 hq
    obtain ⟨g319, rfl, hq⟩ := hq
    replace hS : SH M X w [Ent.im tyValue y318.Long.Value g319] _ := hS.join [] [] rfl rfl hq
    clear hq
    rw [hX] at hS
    exact ⟨gL [g319], fun _ _ => rfl, hS.sel [0] rfl⟩
   ·intro o ho a w yg285 M Hb hv hO hS0
    obtain rfl := Option.some.inj ho
    have H : Fr 279 ([(113, [], .agg ⟨[.string ⟨⟨y318.Long.Name⟩⟩, .slice (yg285 24 0).a y318.Long.Value.length (yg285 24 0).c, .string ⟨⟨y318.Long.Whole⟩⟩, .bool y318.Important, .int .u8 y318.Origin, .bool y318.Attached, .int .i64 y318.Layer, .int .i64 y318.Weight.e0, .int .i64 y318.Weight.e1, .int .i64 y318.Weight.e2, .int .i64 y318.Order]⟩)] ++ [(1, [], .bool z3), (2, [], .pointer (some ⟨b233, 0, none⟩)), (4, [], .slice g268.a 3 g268.c), (5, [], .pointer (some ⟨b276, 0, none⟩))]) _ := (Hb).add (hv 24 (by decide) (by decide) 113 rfl)
    obtain ⟨X, hX⟩ : ∃ X, X = fpl [Ent.im tyValue y318.Long.Value (yg285 24 0)] := ⟨_, rfl⟩
    have hS : SH M X w [Ent.im tyValue y318.Long.Value (yg285 24 0)] w := by rw [hX]; exact hS0
    have hd := hS.hand [0] [0] rfl rfl
    refine Stp.mono (o_lit (T := tyDeclared) (E := 31) (zv := .agg ⟨[.string ⟨⟨[]⟩⟩, .slice none 0 0, .string ⟨⟨[]⟩⟩, .bool false, .int .u8 0, .bool false, .int .i64 0, .int .i64 0, .int .i64 0, .int .i64 0, .int .i64 0]⟩) [.string ⟨⟨y318.Long.Name⟩⟩, .slice (yg285 24 0).a y318.Long.Value.length (yg285 24 0).c, .string ⟨⟨y318.Long.Whole⟩⟩, .bool y318.Important, .int .u8 y318.Origin, .bool y318.Attached, .int .i64 y318.Layer, .int .i64 y318.Weight.e0, .int .i64 y318.Weight.e1, .int .i64 y318.Weight.e2, .int .i64 y318.Order] ([y318] : List TDeclared) [gL [(yg285 24 0)]] _ H hd rfl (by kernel_rfl) (by kernel_rfl) (by kernel_rfl) (by kernel_rfl) (by kernel_rfl) (by kernel_rfl) (by kernel_rfl) rfl (InnL.cons (tyDeclared_mk (hd.im 0 rfl)) InnL.nil)) ?_
    rintro v w2 hq
    obtain ⟨g321, rfl, hq⟩ := hq
    replace hS : SH M X w [Ent.own 31 tyDeclared ([y318] : List TDeclared) g321, Ent.im tyValue y318.Long.Value (yg285 24 0)] _ := hS.join [0] [0] rfl rfl hq
    clear hq
    rw [hX] at hS
    exact ⟨gL [g321], fun _ _ => rfl, hS.sel [0, 1] rfl⟩
   ·intro o ho a w yg285 M Hb hv hO hS0
    obtain rfl := Option.some.inj ho
    have H : Fr 279 ([(114, [], .slice (yg285 25 0).a 1 (yg285 25 0).c)] ++ [(1, [], .bool z3), (2, [], .pointer (some ⟨b233, 0, none⟩)), (4, [], .slice g268.a 3 g268.c), (5, [], .pointer (some ⟨b276, 0, none⟩))]) _ := (Hb).add (hv 25 (by decide) (by decide) 114 rfl)
    obtain ⟨X, hX⟩ : ∃ X, X = fpl [Ent.own 31 tyDeclared ([y318] : List TDeclared) (yg285 25 0), gE0] := ⟨_, rfl⟩
    have hS : SH M X w [Ent.own 31 tyDeclared ([y318] : List TDeclared) (yg285 25 0), gE0] w := by rw [hX]; exact hS0
    refine Stp.mono (o_evs [(.bool y323)] (.bool y323) (some (fun wz => RetB Tryd.prog 4 ⟨[.slice (yg285 25 0).a 1 (yg285 25 0).c, .string ⟨⟨[45, 45, 97]⟩⟩, .int .i64 (-1), .string ⟨⟨[105, 110, 105, 116, 105, 97, 108]⟩⟩]⟩ (.bool y323) wz)) [] H rfl (by kernel_rfl) (fun q e => by cases e; exact (law31_says_ok (g_l_ := (yg285 25 0)) m _ _ _ _ _ hy323 _ (s0im (s0im s0nil (hS.im 1 rfl)) (hS.osl 0 rfl))))) ?_
    rintro v w2 ⟨rfl, hq⟩
    replace hS : SH M X w [Ent.own 31 tyDeclared ([y318] : List TDeclared) (yg285 25 0), gE0] _ := hS.below hq.below
    rw [hX] at hS
    exact ⟨gL [], fun _ _ => rfl, hS.sel [0, 1] rfl⟩
   ·intro o ho a w yg285 M Hb hv hO hS0
    obtain rfl := Option.some.inj ho
    have H : Fr 279 ([(115, [], .bool y323), (112, [], .bool x316)] ++ [(1, [], .bool z3), (2, [], .pointer (some ⟨b233, 0, none⟩)), (4, [], .slice g268.a 3 g268.c), (5, [], .pointer (some ⟨b276, 0, none⟩))]) _ := ((Hb).add (hv 23 (by decide) (by decide) 112 rfl)).add (hv 26 (by decide) (by decide) 115 rfl)
    obtain ⟨X, hX⟩ : ∃ X, X = fpl [] := ⟨_, rfl⟩
    have hS : SH M X w [] w := by rw [hX]; exact hS0
    refine Stp.mono (o_evs [] (.bool (cond x316 y323 false)) none [] H rfl (by kernel_rfl) (fun q e => by cases e)) ?_
    rintro v w2 ⟨rfl, hq⟩
    replace hS : SH M X w [] _ := hS.below hq.below
    rw [hX] at hS
    exact ⟨gL [], fun _ _ => rfl, hS.sel [] rfl⟩
   ·intro o ho a w yg285 M Hb hv hO hS0
    obtain rfl := Option.some.inj ho
    have H : Fr 279 ([(116, [], .bool (cond x316 y323 false))] ++ [(1, [], .bool z3), (2, [], .pointer (some ⟨b233, 0, none⟩)), (4, [], .slice g268.a 3 g268.c), (5, [], .pointer (some ⟨b276, 0, none⟩))]) _ := (Hb).add (hv 27 (by decide) (by decide) 116 rfl)
    obtain ⟨X, hX⟩ : ∃ X, X = fpl [] := ⟨_, rfl⟩
    have hS : SH M X w [] w := by rw [hX]; exact hS0
    refine Stp.mono (o_evs [] (.bool (cond x316 y323 false)) none [] H rfl (by kernel_rfl) (fun q e => by cases e)) ?_
    rintro v w2 ⟨rfl, hq⟩
    replace hS : SH M X w [] _ := hS.below hq.below
    rw [hX] at hS
    exact ⟨gL [], fun _ _ => rfl, hS.sel [] rfl⟩
   ·intro o ho a w yg285 M Hb hv hO hS0
    obtain rfl := Option.some.inj ho
    have H : Fr 279 ([] ++ [(1, [], .bool z3), (2, [], .pointer (some ⟨b233, 0, none⟩)), (4, [], .slice g268.a 3 g268.c), (5, [], .pointer (some ⟨b276, 0, none⟩))]) _ := Hb
    obtain ⟨X, hX⟩ : ∃ X, X = fpl [gE0] := ⟨_, rfl⟩
    have hS : SH M X w [gE0] w := by rw [hX]; exact hS0
    refine Stp.mono (o_evs [(.bool y325)] (.bool y325) (some (fun wz => RetB Tryd.prog 4 ⟨[.slice none 0 0, .string ⟨⟨[45, 45, 98]⟩⟩, .int .i64 (-1), .string ⟨⟨[105, 110, 104, 101, 114, 105, 116]⟩⟩]⟩ (.bool y325) wz)) [] H rfl (by kernel_rfl) (fun q e => by cases e; exact (law31_says_ok (g_l_ := Gh.nil) m _ _ _ _ _ hy325 _ (s0im (s0im s0nil (hS.im 0 rfl)) (SlG.nil (M := F0) (g := Gh.nil)))))) ?_
    rintro v w2 ⟨rfl, hq⟩
    replace hS : SH M X w [gE0] _ := hS.below hq.below
    rw [hX] at hS
    exact ⟨gL [], fun _ _ => rfl, hS.sel [0] rfl⟩
   ·intro o ho a w yg285 M Hb hv hO hS0
    obtain rfl := Option.some.inj ho
    have H : Fr 279 ([(118, [], .bool y325), (117, [], .bool (cond x316 y323 false))] ++ [(1, [], .bool z3), (2, [], .pointer (some ⟨b233, 0, none⟩)), (4, [], .slice g268.a 3 g268.c), (5, [], .pointer (some ⟨b276, 0, none⟩))]) _ := ((Hb).add (hv 28 (by decide) (by decide) 117 rfl)).add (hv 29 (by decide) (by decide) 118 rfl)
    obtain ⟨X, hX⟩ : ∃ X, X = fpl [] := ⟨_, rfl⟩
    have hS : SH M X w [] w := by rw [hX]; exact hS0
    refine Stp.mono (o_evs [] (.bool (cond (cond x316 y323 false) y325 false)) none [] H rfl (by kernel_rfl) (fun q e => by cases e)) ?_
    rintro v w2 ⟨rfl, hq⟩
    replace hS : SH M X w [] _ := hS.below hq.below
    rw [hX] at hS
    exact ⟨gL [], fun _ _ => rfl, hS.sel [] rfl⟩
   ·intro o ho a w yg285 M Hb hv hO hS0
    obtain rfl := Option.some.inj ho
    have H : Fr 279 ([(119, [], .bool (cond (cond x316 y323 false) y325 false))] ++ [(1, [], .bool z3), (2, [], .pointer (some ⟨b233, 0, none⟩)), (4, [], .slice g268.a 3 g268.c), (5, [], .pointer (some ⟨b276, 0, none⟩))]) _ := (Hb).add (hv 30 (by decide) (by decide) 119 rfl)
    obtain ⟨X, hX⟩ : ∃ X, X = fpl [] := ⟨_, rfl⟩
    have hS : SH M X w [] w := by rw [hX]; exact hS0
    refine Stp.mono (o_evs [] (.bool (cond (cond x316 y323 false) y325 false)) none [] H rfl (by kernel_rfl) (fun q e => by cases e)) ?_
    rintro v w2 ⟨rfl, hq⟩
    replace hS : SH M X w [] _ := hS.below hq.below
    rw [hX] at hS
    exact ⟨gL [], fun _ _ => rfl, hS.sel [] rfl⟩
  have H328 : Fr 279 [(6, [], .bool (cond (cond x316 y323 false) y325 false)), (1, [], .bool z3), (4, [], .slice g268.a 3 g268.c)] _ := (FrG.add (FrG.keep (ks := [1, 4]) H327 (by kernel_rfl)) (hv 31 6 rfl))
  replace hS : SH M X w [Ent.own 31 tyDeclared ([(TDeclared.mk y228.Long true y228.Origin y228.Attached y228.Layer y228.Weight y228.Order)] : List TDeclared) (yg285 4 0), Ent.own 31 tyDeclared q294 (yg285 5 0), Ent.im tyValue y300.Long.Value (yg285 12 0), Ent.own 31 tyDeclared ([y300, (TDeclared.mk (TLong.mk y271.Long.Name y271.Long.Value [109, 97, 114, 103, 105, 110]) y271.Important y271.Origin y271.Attached y271.Layer y271.Weight y271.Order)] : List TDeclared) (yg285 14 0), Ent.im tyValue y307.Long.Value (yg285 18 0), Ent.im tyValue y310.Long.Value (yg285 19 0), Ent.own 31 tyDeclared ([y307, y310] : List TDeclared) (yg285 20 0), Ent.im tyValue y318.Long.Value (yg285 24 0), Ent.own 31 tyDeclared ([y318] : List TDeclared) (yg285 25 0), Ent.blk b276 [.string ⟨⟨y271.Long.Name⟩⟩, .slice g272.a y271.Long.Value.length g272.c, .string ⟨⟨[109, 97, 114, 103, 105, 110]⟩⟩, .bool y271.Important, .int .u8 y271.Origin, .bool y271.Attached, .int .i64 y271.Layer, .int .i64 y271.Weight.e0, .int .i64 y271.Weight.e1, .int .i64 y271.Weight.e2, .int .i64 y271.Order], Ent.im tyValue y271.Long.Value g272, Ent.own 31 tyDeclared ([y257, y260, (TDeclared.mk y242.Long true y242.Origin y242.Attached y242.Layer y242.Weight y242.Order)] : List TDeclared) g268, Ent.blk b233 [.string ⟨⟨y228.Long.Name⟩⟩, .slice g229.a y228.Long.Value.length g229.c, .string ⟨⟨y228.Long.Whole⟩⟩, .bool true, .int .u8 y228.Origin, .bool y228.Attached, .int .i64 y228.Layer, .int .i64 y228.Weight.e0, .int .i64 y228.Weight.e1, .int .i64 y228.Weight.e2, .int .i64 y228.Order], Ent.im tyValue y228.Long.Value g229, gE0] _ := hS
  clear hv H327
  generalize yg285 4 0 = g329 at H328 hS
  generalize yg285 5 0 = g330 at H328 hS
  generalize yg285 12 0 = g331 at H328 hS
  generalize yg285 14 0 = g332 at H328 hS
  generalize yg285 18 0 = g333 at H328 hS
  generalize yg285 19 0 = g334 at H328 hS
  generalize yg285 20 0 = g335 at H328 hS
  generalize yg285 24 0 = g336 at H328 hS
  generalize yg285 25 0 = g337 at H328 hS
  replace hS : SH M X w [Ent.own 31 tyDeclared ([y257, y260, (TDeclared.mk y242.Long true y242.Origin y242.Attached y242.Layer y242.Weight y242.Order)] : List TDeclared) g268, gE0] _ := hS.sel [11, 14] rfl
  refine w_seq ?_
  refine wl_start ?_
  obtain ⟨y338, hy338, hm⟩ := bindE hm
  have hd := hS.hand [] [0, 1] rfl rfl
  refine m_stp [120, 1, 4, 6] [(1, [], .bool z3), (4, [], .slice g268.a 3 g268.c), (6, [], .bool (cond (cond x316 y323 false) y325 false))] H328 rfl rfl rfl rfl (o_callx H328 rfl rfl (law31_of_ok m _ _ _ _ hy338 _ _ hd)) (fun _ => rfl) fun _ wd341 v H342 hq => ?_
  clear H328 hd
  obtain ⟨g339, rfl, hq⟩ := hq
  replace hS : SH M X w [Ent.im tyValue y338.Long.Value g339, Ent.own 31 tyDeclared ([y257, y260, (TDeclared.mk y242.Long true y242.Origin y242.Attached y242.Layer y242.Weight y242.Order)] : List TDeclared) g268, gE0] _ := hS.join [] [0, 1] rfl rfl hq
  clear hq
  have hd := hS.hand [0] [0, 1, 2] rfl rfl
  refine m_stp [121, 1, 4, 6] [(1, [], .bool z3), (4, [], .slice g268.a 3 g268.c), (6, [], .bool (cond (cond x316 y323 false) y325 false))] H342 rfl rfl rfl rfl (o_lit (T := tyDeclared) (E := 31) (zv := .agg ⟨[.string ⟨⟨[]⟩⟩, .slice none 0 0, .string ⟨⟨[]⟩⟩, .bool false, .int .u8 0, .bool false, .int .i64 0, .int .i64 0, .int .i64 0, .int .i64 0, .int .i64 0]⟩) [.string ⟨⟨y338.Long.Name⟩⟩, .slice g339.a y338.Long.Value.length g339.c, .string ⟨⟨y338.Long.Whole⟩⟩, .bool y338.Important, .int .u8 y338.Origin, .bool y338.Attached, .int .i64 y338.Layer, .int .i64 y338.Weight.e0, .int .i64 y338.Weight.e1, .int .i64 y338.Weight.e2, .int .i64 y338.Order] ([y338] : List TDeclared) [gL [g339]] _ H342 hd rfl (by kernel_rfl) (by kernel_rfl) (by kernel_rfl) (by kernel_rfl) (by kernel_rfl) (by kernel_rfl) (by kernel_rfl) rfl (InnL.cons (tyDeclared_mk (hd.im 0 rfl)) InnL.nil)) (fun _ => rfl) fun _ wd345 v H346 hq => ?_
  clear H342 hd
  obtain ⟨g343, rfl, hq⟩ := hq
  replace hS : SH M X w [Ent.own 31 tyDeclared ([y338] : List TDeclared) g343, Ent.im tyValue y338.Long.Value g339, Ent.own 31 tyDeclared ([y257, y260, (TDeclared.mk y242.Long true y242.Origin y242.Attached y242.Layer y242.Weight y242.Order)] : List TDeclared) g268, gE0] _ := hS.join [0] [0, 1, 2] rfl rfl hq
  clear hq
  refine wl_batch 2 3 [] [1, 4, 6, 7] [(1, [], .bool z3), (4, [], .slice g268.a 3 g268.c), (6, [], .bool (cond (cond x316 y323 false) y325 false)), (7, [], .slice g343.a 1 g343.c)] [] H346 (by decide) (by kernel_rfl) trivial fun _ wd347 H348 hb => ?_
  clear H346
  replace hS := hS.below hb
  clear hb
  refine wl_end rfl ?_
  replace hS : SH M X w [Ent.own 31 tyDeclared ([y338] : List TDeclared) g343, Ent.own 31 tyDeclared ([y257, y260, (TDeclared.mk y242.Long true y242.Origin y242.Attached y242.Layer y242.Weight y242.Order)] : List TDeclared) g268, gE0] _ := hS.sel [0, 2, 3] rfl
  refine w_seq ?_
  refine wl_start ?_
  obtain ⟨y349, hy349, hm⟩ := bindE hm
  have hd := hS.hand [] [0, 1, 2] rfl rfl
  refine m_stp [122, 1, 4, 6, 7] [(1, [], .bool z3), (4, [], .slice g268.a 3 g268.c), (6, [], .bool (cond (cond x316 y323 false) y325 false)), (7, [], .slice g343.a 1 g343.c)] H348 rfl rfl rfl rfl (o_callx H348 rfl rfl (law31_of_ok m _ _ _ _ hy349 _ _ hd)) (fun _ => rfl) fun _ wd352 v H353 hq => ?_
  clear H348 hd
  obtain ⟨g350, rfl, hq⟩ := hq
  replace hS : SH M X w [Ent.im tyValue y349.Long.Value g350, Ent.own 31 tyDeclared ([y338] : List TDeclared) g343, Ent.own 31 tyDeclared ([y257, y260, (TDeclared.mk y242.Long true y242.Origin y242.Attached y242.Layer y242.Weight y242.Order)] : List TDeclared) g268, gE0] _ := hS.join [] [0, 1, 2] rfl rfl hq
  clear hq
  obtain ⟨y354, hy354, hm⟩ := bindE hm
  have hd := hS.hand [] [0, 1, 2, 3] rfl rfl
  refine m_stp [123, 1, 4, 6, 7, 122] [(1, [], .bool z3), (4, [], .slice g268.a 3 g268.c), (6, [], .bool (cond (cond x316 y323 false) y325 false)), (7, [], .slice g343.a 1 g343.c), (122, [], .agg ⟨[.string ⟨⟨y349.Long.Name⟩⟩, .slice g350.a y349.Long.Value.length g350.c, .string ⟨⟨y349.Long.Whole⟩⟩, .bool y349.Important, .int .u8 y349.Origin, .bool y349.Attached, .int .i64 y349.Layer, .int .i64 y349.Weight.e0, .int .i64 y349.Weight.e1, .int .i64 y349.Weight.e2, .int .i64 y349.Order]⟩)] H353 rfl rfl rfl rfl (o_callx H353 rfl rfl (law31_of_ok m _ _ _ _ hy354 _ _ hd)) (fun _ => rfl) fun _ wd357 v H358 hq => ?_
  clear H353 hd
  obtain ⟨g355, rfl, hq⟩ := hq
  replace hS : SH M X w [Ent.im tyValue y354.Long.Value g355, Ent.im tyValue y349.Long.Value g350, Ent.own 31 tyDeclared ([y338] : List TDeclared) g343, Ent.own 31 tyDeclared ([y257, y260, (TDeclared.mk y242.Long true y242.Origin y242.Attached y242.Layer y242.Weight y242.Order)] : List TDeclared) g268, gE0] _ := hS.join [] [0, 1, 2, 3] rfl rfl hq
  clear hq
  have hd := hS.hand [1, 0] [0, 1, 2, 3, 4] rfl rfl
  refine m_stp [124, 1, 4, 6, 7] [(1, [], .bool z3), (4, [], .slice g268.a 3 g268.c), (6, [], .bool (cond (cond x316 y323 false) y325 false)), (7, [], .slice g343.a 1 g343.c)] H358 rfl rfl rfl rfl (o_lit (T := tyDeclared) (E := 31) (zv := .agg ⟨[.string ⟨⟨[]⟩⟩, .slice none 0 0, .string ⟨⟨[]⟩⟩, .bool false, .int .u8 0, .bool false, .int .i64 0, .int .i64 0, .int .i64 0, .int .i64 0, .int .i64 0]⟩) [.string ⟨⟨y349.Long.Name⟩⟩, .slice g350.a y349.Long.Value.length g350.c, .string ⟨⟨y349.Long.Whole⟩⟩, .bool y349.Important, .int .u8 y349.Origin, .bool y349.Attached, .int .i64 y349.Layer, .int .i64 y349.Weight.e0, .int .i64 y349.Weight.e1, .int .i64 y349.Weight.e2, .int .i64 y349.Order, .string ⟨⟨y354.Long.Name⟩⟩, .slice g355.a y354.Long.Value.length g355.c, .string ⟨⟨y354.Long.Whole⟩⟩, .bool y354.Important, .int .u8 y354.Origin, .bool y354.Attached, .int .i64 y354.Layer, .int .i64 y354.Weight.e0, .int .i64 y354.Weight.e1, .int .i64 y354.Weight.e2, .int .i64 y354.Order] ([y349, y354] : List TDeclared) [gL [g350], gL [g355]] _ H358 hd rfl (by kernel_rfl) (by kernel_rfl) (by kernel_rfl) (by kernel_rfl) (by kernel_rfl) (by kernel_rfl) (by kernel_rfl) rfl (InnL.cons (tyDeclared_mk (hd.im 0 rfl)) (InnL.cons (tyDeclared_mk (hd.im 1 rfl)) InnL.nil))) (fun _ => rfl) fun _ wd361 v H362 hq => ?_
  clear H358 hd
  obtain ⟨g359, rfl, hq⟩ := hq
  replace hS : SH M X w [Ent.own 31 tyDeclared ([y349, y354] : List TDeclared) g359, Ent.im tyValue y354.Long.Value g355, Ent.im tyValue y349.Long.Value g350, Ent.own 31 tyDeclared ([y338] : List TDeclared) g343, Ent.own 31 tyDeclared ([y257, y260, (TDeclared.mk y242.Long true y242.Origin y242.Attached y242.Layer y242.Weight y242.Order)] : List TDeclared) g268, gE0] _ := hS.join [1, 0] [0, 1, 2, 3, 4] rfl rfl hq
  clear hq
  refine wl_batch 3 4 [] [1, 4, 6, 7, 8] [(1, [], .bool z3), (4, [], .slice g268.a 3 g268.c), (6, [], .bool (cond (cond x316 y323 false) y325 false)), (7, [], .slice g343.a 1 g343.c), (8, [], .slice g359.a 2 g359.c)] [] H362 (by decide) (by kernel_rfl) trivial fun _ wd363 H364 hb => ?_
  clear H362
  replace hS := hS.below hb
  clear hb
  refine wl_end rfl ?_
  replace hS : SH M X w [Ent.own 31 tyDeclared ([y349, y354] : List TDeclared) g359, Ent.own 31 tyDeclared ([y338] : List TDeclared) g343, Ent.own 31 tyDeclared ([y257, y260, (TDeclared.mk y242.Long true y242.Origin y242.Attached y242.Layer y242.Weight y242.Order)] : List TDeclared) g268, gE0] _ := hS.sel [0, 3, 4, 5] rfl
  obtain ⟨y365, hy365, hm⟩ := bindE hm
  refine s_reg [(.tuple ⟨[.int .i64 y365.1, .string ⟨⟨y365.2.1⟩⟩, .int .i64 y365.2.2]⟩)] [1, 4, 6, 7, 8, 11] [(1, [], .bool z3), (4, [], .slice g268.a 3 g268.c), (6, [], .bool (cond (cond x316 y323 false) y325 false)), (7, [], .slice g343.a 1 g343.c), (8, [], .slice g359.a 2 g359.c), (11, [], .int .i64 y365.2.2)] [fun wz => RetB Tryd.prog 7 ⟨[.slice g343.a 1 g343.c, .string ⟨⟨[120]⟩⟩]⟩ (.tuple ⟨[.int .i64 y365.1, .string ⟨⟨y365.2.1⟩⟩, .int .i64 y365.2.2]⟩) wz] H364 (by kernel_rfl) ⟨(wide_Decide_ok (g_l_ := g343) m _ _ _ hy365 _ (s0im (s0im s0nil (hS.im 3 rfl)) (hS.osl 1 rfl))), trivial⟩ fun _ wd366 H367 hb => ?_
  clear H364
  replace hS := hS.below hb
  clear hb
  obtain ⟨y368, hy368, hm⟩ := bindE hm
  refine s_reg [(.tuple ⟨[.int .i64 y368.1, .string ⟨⟨y368.2.1⟩⟩, .int .i64 y368.2.2]⟩)] [1, 4, 6, 7, 11, 14] [(1, [], .bool z3), (4, [], .slice g268.a 3 g268.c), (6, [], .bool (cond (cond x316 y323 false) y325 false)), (7, [], .slice g343.a 1 g343.c), (11, [], .int .i64 y365.2.2), (14, [], .int .i64 y368.2.2)] [fun wz => RetB Tryd.prog 7 ⟨[.slice g359.a 2 g359.c, .string ⟨⟨[120]⟩⟩]⟩ (.tuple ⟨[.int .i64 y368.1, .string ⟨⟨y368.2.1⟩⟩, .int .i64 y368.2.2]⟩) wz] H367 (by kernel_rfl) ⟨(wide_Decide_ok (g_l_ := g359) m _ _ _ hy368 _ (s0im (s0im s0nil (hS.im 3 rfl)) (hS.osl 0 rfl))), trivial⟩ fun _ wd369 H370 hb => ?_
  clear H367
  replace hS := hS.below hb
  clear hb
  replace hS : SH M X w [Ent.own 31 tyDeclared ([y338] : List TDeclared) g343, Ent.own 31 tyDeclared ([y257, y260, (TDeclared.mk y242.Long true y242.Origin y242.Attached y242.Layer y242.Weight y242.Order)] : List TDeclared) g268, gE0] _ := hS.sel [1, 2, 3] rfl
  obtain ⟨y371, hy371, hm⟩ := bindE hm
  refine s_reg [(.tuple ⟨[.int .i64 y371.1, .string ⟨⟨y371.2.1⟩⟩, .int .i64 y371.2.2]⟩)] [1, 4, 6, 7, 11, 14, 17] [(1, [], .bool z3), (4, [], .slice g268.a 3 g268.c), (6, [], .bool (cond (cond x316 y323 false) y325 false)), (7, [], .slice g343.a 1 g343.c), (11, [], .int .i64 y365.2.2), (14, [], .int .i64 y368.2.2), (17, [], .int .i64 y371.2.2)] [fun wz => RetB Tryd.prog 7 ⟨[.slice none 0 0, .string ⟨⟨[109, 97, 114, 103, 105, 110]⟩⟩]⟩ (.tuple ⟨[.int .i64 y371.1, .string ⟨⟨y371.2.1⟩⟩, .int .i64 y371.2.2]⟩) wz] H370 (by kernel_rfl) ⟨(wide_Decide_ok (g_l_ := Gh.nil) m _ _ _ hy371 _ (s0im (s0im s0nil (hS.im 2 rfl)) (SlG.nil (M := F0) (g := Gh.nil)))), trivial⟩ fun _ wd372 H373 hb => ?_
  clear H370
  replace hS := hS.below hb
  clear hb
  obtain ⟨y374, hy374, hm⟩ := bindE hm
  refine s_reg [(.tuple ⟨[.int .i64 y374.1, .string ⟨⟨y374.2.1⟩⟩, .int .i64 y374.2.2]⟩)] [1, 4, 6, 7, 11, 14, 17, 20] [(1, [], .bool z3), (4, [], .slice g268.a 3 g268.c), (6, [], .bool (cond (cond x316 y323 false) y325 false)), (7, [], .slice g343.a 1 g343.c), (11, [], .int .i64 y365.2.2), (14, [], .int .i64 y368.2.2), (17, [], .int .i64 y371.2.2), (20, [], .int .i64 y374.2.2)] [fun wz => RetB Tryd.prog 8 ⟨[.slice g343.a 1 g343.c, .int .i64 (-1), .string ⟨⟨[]⟩⟩]⟩ (.tuple ⟨[.int .i64 y374.1, .string ⟨⟨y374.2.1⟩⟩, .int .i64 y374.2.2]⟩) wz] H373 (by kernel_rfl) ⟨(wide_Mean_ok (g_l_ := g343) m _ _ _ _ hy374 _ (s0im (s0im s0nil (hS.im 2 rfl)) (hS.osl 0 rfl))), trivial⟩ fun _ wd375 H376 hb => ?_
  clear H373
  replace hS := hS.below hb
  clear hb
  obtain ⟨y377, hy377, hm⟩ := bindE hm
  refine s_reg [(.tuple ⟨[.int .i64 y377.1, .string ⟨⟨y377.2.1⟩⟩, .int .i64 y377.2.2]⟩)] [1, 4, 6, 7, 11, 14, 17, 20, 23] [(1, [], .bool z3), (4, [], .slice g268.a 3 g268.c), (6, [], .bool (cond (cond x316 y323 false) y325 false)), (7, [], .slice g343.a 1 g343.c), (11, [], .int .i64 y365.2.2), (14, [], .int .i64 y368.2.2), (17, [], .int .i64 y371.2.2), (20, [], .int .i64 y374.2.2), (23, [], .int .i64 y377.2.2)] [fun wz => RetB Tryd.prog 8 ⟨[.slice g268.a 3 g268.c, .int .i64 3, .string ⟨⟨[117, 110, 115, 101, 116]⟩⟩]⟩ (.tuple ⟨[.int .i64 y377.1, .string ⟨⟨y377.2.1⟩⟩, .int .i64 y377.2.2]⟩) wz] H376 (by kernel_rfl) ⟨(wide_Mean_ok (g_l_ := g268) m _ _ _ _ hy377 _ (s0im (s0im s0nil (hS.im 2 rfl)) (hS.osl 1 rfl))), trivial⟩ fun _ wd378 H379 hb => ?_
  clear H376
  replace hS := hS.below hb
  clear hb
  obtain ⟨y380, hy380, hm⟩ := bindE hm
  refine s_reg [(.tuple ⟨[.int .i64 y380.1, .string ⟨⟨y380.2.1⟩⟩, .int .i64 y380.2.2]⟩)] [1, 4, 6, 7, 11, 14, 17, 20, 23, 26] [(1, [], .bool z3), (4, [], .slice g268.a 3 g268.c), (6, [], .bool (cond (cond x316 y323 false) y325 false)), (7, [], .slice g343.a 1 g343.c), (11, [], .int .i64 y365.2.2), (14, [], .int .i64 y368.2.2), (17, [], .int .i64 y371.2.2), (20, [], .int .i64 y374.2.2), (23, [], .int .i64 y377.2.2), (26, [], .int .i64 y380.2.2)] [fun wz => RetB Tryd.prog 8 ⟨[.slice g268.a 3 g268.c, .int .i64 (-1), .string ⟨⟨[117, 110, 115, 101, 116]⟩⟩]⟩ (.tuple ⟨[.int .i64 y380.1, .string ⟨⟨y380.2.1⟩⟩, .int .i64 y380.2.2]⟩) wz] H379 (by kernel_rfl) ⟨(wide_Mean_ok (g_l_ := g268) m _ _ _ _ hy380 _ (s0im (s0im s0nil (hS.im 2 rfl)) (hS.osl 1 rfl))), trivial⟩ fun _ wd381 H382 hb => ?_
  clear H379
  replace hS := hS.below hb
  clear hb
  obtain ⟨y383, hy383, hm⟩ := bindE hm
  refine s_reg [(.tuple ⟨[.int .i64 y383.1, .string ⟨⟨y383.2.1⟩⟩, .int .i64 y383.2.2]⟩)] [1, 4, 6, 7, 11, 14, 17, 20, 23, 26, 29] [(1, [], .bool z3), (4, [], .slice g268.a 3 g268.c), (6, [], .bool (cond (cond x316 y323 false) y325 false)), (7, [], .slice g343.a 1 g343.c), (11, [], .int .i64 y365.2.2), (14, [], .int .i64 y368.2.2), (17, [], .int .i64 y371.2.2), (20, [], .int .i64 y374.2.2), (23, [], .int .i64 y377.2.2), (26, [], .int .i64 y380.2.2), (29, [], .int .i64 y383.2.2)] [fun wz => RetB Tryd.prog 8 ⟨[.slice g268.a 3 g268.c, .int .i64 0, .string ⟨⟨[85, 110, 115, 101, 116]⟩⟩]⟩ (.tuple ⟨[.int .i64 y383.1, .string ⟨⟨y383.2.1⟩⟩, .int .i64 y383.2.2]⟩) wz] H382 (by kernel_rfl) ⟨(wide_Mean_ok (g_l_ := g268) m _ _ _ _ hy383 _ (s0im (s0im s0nil (hS.im 2 rfl)) (hS.osl 1 rfl))), trivial⟩ fun _ wd384 H385 hb => ?_
  clear H382
  replace hS := hS.below hb
  clear hb
  obtain ⟨y386, hy386, hm⟩ := bindE hm
  refine s_reg [(.tuple ⟨[.int .i64 y386.1, .string ⟨⟨y386.2.1⟩⟩, .int .i64 y386.2.2]⟩)] [1, 4, 6, 7, 11, 14, 17, 20, 23, 26, 29, 30, 31, 32] [(1, [], .bool z3), (4, [], .slice g268.a 3 g268.c), (6, [], .bool (cond (cond x316 y323 false) y325 false)), (7, [], .slice g343.a 1 g343.c), (11, [], .int .i64 y365.2.2), (14, [], .int .i64 y368.2.2), (17, [], .int .i64 y371.2.2), (20, [], .int .i64 y374.2.2), (23, [], .int .i64 y377.2.2), (26, [], .int .i64 y380.2.2), (29, [], .int .i64 y383.2.2), (30, [], .int .i64 y386.1), (31, [], .string ⟨⟨y386.2.1⟩⟩), (32, [], .int .i64 y386.2.2)] [fun wz => RetB Tryd.prog 8 ⟨[.slice g268.a 3 g268.c, .int .i64 1, .string ⟨⟨[114, 101, 118, 101, 114, 116]⟩⟩]⟩ (.tuple ⟨[.int .i64 y386.1, .string ⟨⟨y386.2.1⟩⟩, .int .i64 y386.2.2]⟩) wz] H385 (by kernel_rfl) ⟨(wide_Mean_ok (g_l_ := g268) m _ _ _ _ hy386 _ (s0im (s0im s0nil (hS.im 2 rfl)) (hS.osl 1 rfl))), trivial⟩ fun _ wd387 H388 hb => ?_
  clear H385
  replace hS := hS.below hb
  clear hb
  obtain ⟨y389, hy389, hm⟩ := bindE hm
  refine s_reg [(.tuple ⟨[.int .i64 y389.1, .string ⟨⟨y389.2.1⟩⟩, .int .i64 y389.2.2]⟩)] [1, 4, 6, 7, 11, 14, 17, 20, 23, 26, 29, 30, 31, 32, 33, 34, 35] [(1, [], .bool z3), (4, [], .slice g268.a 3 g268.c), (6, [], .bool (cond (cond x316 y323 false) y325 false)), (7, [], .slice g343.a 1 g343.c), (11, [], .int .i64 y365.2.2), (14, [], .int .i64 y368.2.2), (17, [], .int .i64 y371.2.2), (20, [], .int .i64 y374.2.2), (23, [], .int .i64 y377.2.2), (26, [], .int .i64 y380.2.2), (29, [], .int .i64 y383.2.2), (30, [], .int .i64 y386.1), (31, [], .string ⟨⟨y386.2.1⟩⟩), (32, [], .int .i64 y386.2.2), (33, [], .int .i64 y389.1), (34, [], .string ⟨⟨y389.2.1⟩⟩), (35, [], .int .i64 y389.2.2)] [fun wz => RetB Tryd.prog 8 ⟨[.slice g268.a 3 g268.c, .int .i64 0, .string ⟨⟨[114, 101, 118, 101, 114, 116]⟩⟩]⟩ (.tuple ⟨[.int .i64 y389.1, .string ⟨⟨y389.2.1⟩⟩, .int .i64 y389.2.2]⟩) wz] H388 (by kernel_rfl) ⟨(wide_Mean_ok (g_l_ := g268) m _ _ _ _ hy389 _ (s0im (s0im s0nil (hS.im 2 rfl)) (hS.osl 1 rfl))), trivial⟩ fun _ wd390 H391 hb => ?_
  clear H388
  replace hS := hS.below hb
  clear hb
  refine w_seq ?_
  refine wl_start ?_
  refine wl_batch 0 1 [] [1, 4, 6, 11, 14, 17, 20, 23, 26, 29, 30, 31, 32, 33, 34, 35, 179] [(1, [], .bool z3), (4, [], .slice g268.a 3 g268.c), (6, [], .bool (cond (cond x316 y323 false) y325 false)), (11, [], .int .i64 y365.2.2), (14, [], .int .i64 y368.2.2), (17, [], .int .i64 y371.2.2), (20, [], .int .i64 y374.2.2), (23, [], .int .i64 y377.2.2), (26, [], .int .i64 y380.2.2), (29, [], .int .i64 y383.2.2), (30, [], .int .i64 y386.1), (31, [], .string ⟨⟨y386.2.1⟩⟩), (32, [], .int .i64 y386.2.2), (33, [], .int .i64 y389.1), (34, [], .string ⟨⟨y389.2.1⟩⟩), (35, [], .int .i64 y389.2.2), (179, [], .slice g343.a 1 g343.c)] [] H391 (by decide) (by kernel_rfl) trivial fun _ wd392 H393 hb => ?_
  clear H391
  replace hS := hS.below hb
  clear hb
  replace hS : SH M X w [Ent.im tyDeclared ([y338] : List TDeclared) g343, Ent.own 31 tyDeclared ([y257, y260, (TDeclared.mk y242.Long true y242.Origin y242.Attached y242.Layer y242.Weight y242.Order)] : List TDeclared) g268, gE0] _ := SH.frz1 (hS.sel [0, 1, 2] rfl)
  obtain ⟨y394, hy394, hm⟩ := bindE hm
  have hd := hS.hand [0, 2] [0, 1, 2] rfl rfl
  refine m_stp [180, 1, 4, 6, 11, 14, 17, 20, 23, 26, 29, 30, 31, 32, 33, 34, 35] [(1, [], .bool z3), (4, [], .slice g268.a 3 g268.c), (6, [], .bool (cond (cond x316 y323 false) y325 false)), (11, [], .int .i64 y365.2.2), (14, [], .int .i64 y368.2.2), (17, [], .int .i64 y371.2.2), (20, [], .int .i64 y374.2.2), (23, [], .int .i64 y377.2.2), (26, [], .int .i64 y380.2.2), (29, [], .int .i64 y383.2.2), (30, [], .int .i64 y386.1), (31, [], .string ⟨⟨y386.2.1⟩⟩), (32, [], .int .i64 y386.2.2), (33, [], .int .i64 y389.1), (34, [], .string ⟨⟨y389.2.1⟩⟩), (35, [], .int .i64 y389.2.2)] H393 rfl rfl rfl rfl (o_callx H393 rfl rfl (wide_Lesser_ok (g_l_ := g343) m _ _ _ hy394 _ _ hd)) (fun _ => rfl) fun _ wd397 v H398 hq => ?_
  clear H393 hd
  obtain ⟨g395, rfl, hq⟩ := hq
  replace hS : SH M X w [Ent.own 31 tyDeclared y394.1 g395, Ent.im tyDeclared ([y338] : List TDeclared) g343, Ent.own 31 tyDeclared ([y257, y260, (TDeclared.mk y242.Long true y242.Origin y242.Attached y242.Layer y242.Weight y242.Order)] : List TDeclared) g268, gE0] _ := hS.join [0, 2] [0, 1, 2] rfl rfl hq
  clear hq
  refine wl_batch 2 7 [] [1, 4, 6, 11, 14, 17, 20, 23, 26, 29, 30, 31, 32, 33, 34, 35, 37] [(1, [], .bool z3), (4, [], .slice g268.a 3 g268.c), (6, [], .bool (cond (cond x316 y323 false) y325 false)), (11, [], .int .i64 y365.2.2), (14, [], .int .i64 y368.2.2), (17, [], .int .i64 y371.2.2), (20, [], .int .i64 y374.2.2), (23, [], .int .i64 y377.2.2), (26, [], .int .i64 y380.2.2), (29, [], .int .i64 y383.2.2), (30, [], .int .i64 y386.1), (31, [], .string ⟨⟨y386.2.1⟩⟩), (32, [], .int .i64 y386.2.2), (33, [], .int .i64 y389.1), (34, [], .string ⟨⟨y389.2.1⟩⟩), (35, [], .int .i64 y389.2.2), (37, [], .int .i64 y394.2)] [] H398 (by decide) (by kernel_rfl) trivial fun _ wd399 H400 hb => ?_
  clear H398
  replace hS := hS.below hb
  clear hb
  refine wl_end rfl ?_
  replace hS : SH M X w [Ent.own 31 tyDeclared ([y257, y260, (TDeclared.mk y242.Long true y242.Origin y242.Attached y242.Layer y242.Weight y242.Order)] : List TDeclared) g268, gE0] _ := hS.sel [2, 3] rfl
  refine w_seq ?_
  refine wl_start ?_
  refine wl_batch 0 1 [] [1, 4, 6, 11, 14, 17, 20, 23, 26, 29, 30, 31, 32, 33, 34, 35, 37, 184] [(1, [], .bool z3), (4, [], .slice g268.a 3 g268.c), (6, [], .bool (cond (cond x316 y323 false) y325 false)), (11, [], .int .i64 y365.2.2), (14, [], .int .i64 y368.2.2), (17, [], .int .i64 y371.2.2), (20, [], .int .i64 y374.2.2), (23, [], .int .i64 y377.2.2), (26, [], .int .i64 y380.2.2), (29, [], .int .i64 y383.2.2), (30, [], .int .i64 y386.1), (31, [], .string ⟨⟨y386.2.1⟩⟩), (32, [], .int .i64 y386.2.2), (33, [], .int .i64 y389.1), (34, [], .string ⟨⟨y389.2.1⟩⟩), (35, [], .int .i64 y389.2.2), (37, [], .int .i64 y394.2), (184, [], .slice g268.a 3 g268.c)] [] H400 (by decide) (by kernel_rfl) trivial fun _ wd401 H402 hb => ?_
  clear H400
  replace hS := hS.below hb
  clear hb
  replace hS : SH M X w [Ent.im tyDeclared ([y257, y260, (TDeclared.mk y242.Long true y242.Origin y242.Attached y242.Layer y242.Weight y242.Order)] : List TDeclared) g268, gE0] _ := SH.frz1 (hS.sel [0, 1] rfl)
  obtain ⟨y403, hy403, hm⟩ := bindE hm
  have hd := hS.hand [0, 1] [0, 1] rfl rfl
  refine m_stp [185, 1, 4, 6, 11, 14, 17, 20, 23, 26, 29, 30, 31, 32, 33, 34, 35, 37] [(1, [], .bool z3), (4, [], .slice g268.a 3 g268.c), (6, [], .bool (cond (cond x316 y323 false) y325 false)), (11, [], .int .i64 y365.2.2), (14, [], .int .i64 y368.2.2), (17, [], .int .i64 y371.2.2), (20, [], .int .i64 y374.2.2), (23, [], .int .i64 y377.2.2), (26, [], .int .i64 y380.2.2), (29, [], .int .i64 y383.2.2), (30, [], .int .i64 y386.1), (31, [], .string ⟨⟨y386.2.1⟩⟩), (32, [], .int .i64 y386.2.2), (33, [], .int .i64 y389.1), (34, [], .string ⟨⟨y389.2.1⟩⟩), (35, [], .int .i64 y389.2.2), (37, [], .int .i64 y394.2)] H402 rfl rfl rfl rfl (o_callx H402 rfl rfl (wide_Lesser_ok (g_l_ := g268) m _ _ _ hy403 _ _ hd)) (fun _ => rfl) fun _ wd406 v H407 hq => ?_
  clear H402 hd
  obtain ⟨g404, rfl, hq⟩ := hq
  replace hS : SH M X w [Ent.own 31 tyDeclared y403.1 g404, Ent.im tyDeclared ([y257, y260, (TDeclared.mk y242.Long true y242.Origin y242.Attached y242.Layer y242.Weight y242.Order)] : List TDeclared) g268, gE0] _ := hS.join [0, 1] [0, 1] rfl rfl hq
  clear hq
  refine wl_batch 2 7 [] [1, 4, 6, 11, 14, 17, 20, 23, 26, 29, 30, 31, 32, 33, 34, 35, 37, 39] [(1, [], .bool z3), (4, [], .slice g268.a 3 g268.c), (6, [], .bool (cond (cond x316 y323 false) y325 false)), (11, [], .int .i64 y365.2.2), (14, [], .int .i64 y368.2.2), (17, [], .int .i64 y371.2.2), (20, [], .int .i64 y374.2.2), (23, [], .int .i64 y377.2.2), (26, [], .int .i64 y380.2.2), (29, [], .int .i64 y383.2.2), (30, [], .int .i64 y386.1), (31, [], .string ⟨⟨y386.2.1⟩⟩), (32, [], .int .i64 y386.2.2), (33, [], .int .i64 y389.1), (34, [], .string ⟨⟨y389.2.1⟩⟩), (35, [], .int .i64 y389.2.2), (37, [], .int .i64 y394.2), (39, [], .int .i64 y403.2)] [] H407 (by decide) (by kernel_rfl) trivial fun _ wd408 H409 hb => ?_
  clear H407
  replace hS := hS.below hb
  clear hb
  refine wl_end rfl ?_
  replace hS : SH M X w [Ent.im tyDeclared ([y257, y260, (TDeclared.mk y242.Long true y242.Origin y242.Attached y242.Layer y242.Weight y242.Order)] : List TDeclared) g268, gE0] _ := hS.sel [1, 2] rfl
  refine w_seq ?_
  refine wl_start ?_
  refine wl_batch 0 1 [] [1, 4, 6, 11, 14, 17, 20, 23, 26, 29, 30, 31, 32, 33, 34, 35, 37, 39, 189] [(1, [], .bool z3), (4, [], .slice g268.a 3 g268.c), (6, [], .bool (cond (cond x316 y323 false) y325 false)), (11, [], .int .i64 y365.2.2), (14, [], .int .i64 y368.2.2), (17, [], .int .i64 y371.2.2), (20, [], .int .i64 y374.2.2), (23, [], .int .i64 y377.2.2), (26, [], .int .i64 y380.2.2), (29, [], .int .i64 y383.2.2), (30, [], .int .i64 y386.1), (31, [], .string ⟨⟨y386.2.1⟩⟩), (32, [], .int .i64 y386.2.2), (33, [], .int .i64 y389.1), (34, [], .string ⟨⟨y389.2.1⟩⟩), (35, [], .int .i64 y389.2.2), (37, [], .int .i64 y394.2), (39, [], .int .i64 y403.2), (189, [], .slice g268.a 3 g268.c)] [] H409 (by decide) (by kernel_rfl) trivial fun _ wd410 H411 hb => ?_
  clear H409
  replace hS := hS.below hb
  clear hb
  obtain ⟨y412, hy412, hm⟩ := bindE hm
  have hd := hS.hand [0, 1] [0, 1] rfl rfl
  refine m_stp [190, 1, 4, 6, 11, 14, 17, 20, 23, 26, 29, 30, 31, 32, 33, 34, 35, 37, 39] [(1, [], .bool z3), (4, [], .slice g268.a 3 g268.c), (6, [], .bool (cond (cond x316 y323 false) y325 false)), (11, [], .int .i64 y365.2.2), (14, [], .int .i64 y368.2.2), (17, [], .int .i64 y371.2.2), (20, [], .int .i64 y374.2.2), (23, [], .int .i64 y377.2.2), (26, [], .int .i64 y380.2.2), (29, [], .int .i64 y383.2.2), (30, [], .int .i64 y386.1), (31, [], .string ⟨⟨y386.2.1⟩⟩), (32, [], .int .i64 y386.2.2), (33, [], .int .i64 y389.1), (34, [], .string ⟨⟨y389.2.1⟩⟩), (35, [], .int .i64 y389.2.2), (37, [], .int .i64 y394.2), (39, [], .int .i64 y403.2)] H411 rfl rfl rfl rfl (o_callx H411 rfl rfl (wide_Lesser_ok (g_l_ := g268) m _ _ _ hy412 _ _ hd)) (fun _ => rfl) fun _ wd415 v H416 hq => ?_
  clear H411 hd
  obtain ⟨g413, rfl, hq⟩ := hq
  replace hS : SH M X w [Ent.own 31 tyDeclared y412.1 g413, Ent.im tyDeclared ([y257, y260, (TDeclared.mk y242.Long true y242.Origin y242.Attached y242.Layer y242.Weight y242.Order)] : List TDeclared) g268, gE0] _ := hS.join [0, 1] [0, 1] rfl rfl hq
  clear hq
  refine wl_batch 2 7 [] [1, 4, 6, 11, 14, 17, 20, 23, 26, 29, 30, 31, 32, 33, 34, 35, 37, 39, 41] [(1, [], .bool z3), (4, [], .slice g268.a 3 g268.c), (6, [], .bool (cond (cond x316 y323 false) y325 false)), (11, [], .int .i64 y365.2.2), (14, [], .int .i64 y368.2.2), (17, [], .int .i64 y371.2.2), (20, [], .int .i64 y374.2.2), (23, [], .int .i64 y377.2.2), (26, [], .int .i64 y380.2.2), (29, [], .int .i64 y383.2.2), (30, [], .int .i64 y386.1), (31, [], .string ⟨⟨y386.2.1⟩⟩), (32, [], .int .i64 y386.2.2), (33, [], .int .i64 y389.1), (34, [], .string ⟨⟨y389.2.1⟩⟩), (35, [], .int .i64 y389.2.2), (37, [], .int .i64 y394.2), (39, [], .int .i64 y403.2), (41, [], .int .i64 y412.2)] [] H416 (by decide) (by kernel_rfl) trivial fun _ wd417 H418 hb => ?_
  clear H416
  replace hS := hS.below hb
  clear hb
  refine wl_end rfl ?_
  replace hS : SH M X w [Ent.im tyDeclared ([y257, y260, (TDeclared.mk y242.Long true y242.Origin y242.Attached y242.Layer y242.Weight y242.Order)] : List TDeclared) g268, gE0] _ := hS.sel [1, 2] rfl
  refine w_seq ?_
  refine wl_start ?_
  refine wl_batch 0 1 [] [1, 4, 6, 11, 14, 17, 20, 23, 26, 29, 30, 31, 32, 33, 34, 35, 37, 39, 41, 194] [(1, [], .bool z3), (4, [], .slice g268.a 3 g268.c), (6, [], .bool (cond (cond x316 y323 false) y325 false)), (11, [], .int .i64 y365.2.2), (14, [], .int .i64 y368.2.2), (17, [], .int .i64 y371.2.2), (20, [], .int .i64 y374.2.2), (23, [], .int .i64 y377.2.2), (26, [], .int .i64 y380.2.2), (29, [], .int .i64 y383.2.2), (30, [], .int .i64 y386.1), (31, [], .string ⟨⟨y386.2.1⟩⟩), (32, [], .int .i64 y386.2.2), (33, [], .int .i64 y389.1), (34, [], .string ⟨⟨y389.2.1⟩⟩), (35, [], .int .i64 y389.2.2), (37, [], .int .i64 y394.2), (39, [], .int .i64 y403.2), (41, [], .int .i64 y412.2), (194, [], .slice g268.a 3 g268.c)] [] H418 (by decide) (by kernel_rfl) trivial fun _ wd419 H420 hb => ?_
  clear H418
  replace hS := hS.below hb
  clear hb
  obtain ⟨y421, hy421, hm⟩ := bindE hm
  have hd := hS.hand [0, 1] [0, 1] rfl rfl
  refine m_stp [195, 1, 4, 6, 11, 14, 17, 20, 23, 26, 29, 30, 31, 32, 33, 34, 35, 37, 39, 41] [(1, [], .bool z3), (4, [], .slice g268.a 3 g268.c), (6, [], .bool (cond (cond x316 y323 false) y325 false)), (11, [], .int .i64 y365.2.2), (14, [], .int .i64 y368.2.2), (17, [], .int .i64 y371.2.2), (20, [], .int .i64 y374.2.2), (23, [], .int .i64 y377.2.2), (26, [], .int .i64 y380.2.2), (29, [], .int .i64 y383.2.2), (30, [], .int .i64 y386.1), (31, [], .string ⟨⟨y386.2.1⟩⟩), (32, [], .int .i64 y386.2.2), (33, [], .int .i64 y389.1), (34, [], .string ⟨⟨y389.2.1⟩⟩), (35, [], .int .i64 y389.2.2), (37, [], .int .i64 y394.2), (39, [], .int .i64 y403.2), (41, [], .int .i64 y412.2)] H420 rfl rfl rfl rfl (o_callx H420 rfl rfl (wide_Lesser_ok (g_l_ := g268) m _ _ _ hy421 _ _ hd)) (fun _ => rfl) fun _ wd424 v H425 hq => ?_
  clear H420 hd
  obtain ⟨g422, rfl, hq⟩ := hq
  replace hS : SH M X w [Ent.own 31 tyDeclared y421.1 g422, Ent.im tyDeclared ([y257, y260, (TDeclared.mk y242.Long true y242.Origin y242.Attached y242.Layer y242.Weight y242.Order)] : List TDeclared) g268, gE0] _ := hS.join [0, 1] [0, 1] rfl rfl hq
  clear hq
  refine wl_batch 2 7 [] [1, 4, 6, 11, 14, 17, 20, 23, 26, 29, 30, 31, 32, 33, 34, 35, 37, 39, 41, 42, 43] [(1, [], .bool z3), (4, [], .slice g268.a 3 g268.c), (6, [], .bool (cond (cond x316 y323 false) y325 false)), (11, [], .int .i64 y365.2.2), (14, [], .int .i64 y368.2.2), (17, [], .int .i64 y371.2.2), (20, [], .int .i64 y374.2.2), (23, [], .int .i64 y377.2.2), (26, [], .int .i64 y380.2.2), (29, [], .int .i64 y383.2.2), (30, [], .int .i64 y386.1), (31, [], .string ⟨⟨y386.2.1⟩⟩), (32, [], .int .i64 y386.2.2), (33, [], .int .i64 y389.1), (34, [], .string ⟨⟨y389.2.1⟩⟩), (35, [], .int .i64 y389.2.2), (37, [], .int .i64 y394.2), (39, [], .int .i64 y403.2), (41, [], .int .i64 y412.2), (42, [], .slice g422.a y421.1.length g422.c), (43, [], .int .i64 y421.2)] [] H425 (by decide) (by kernel_rfl) trivial fun _ wd426 H427 hb => ?_
  clear H425
  replace hS := hS.below hb
  clear hb
  refine wl_end rfl ?_
  obtain ⟨z428, hz, hm⟩ := bindE hm
  refine w_cut (fun a' w' => Fr 279 [(0, [], .bool z428)] a' ∧ SH M X w [Ent.own 31 tyDeclared y421.1 g422, Ent.im tyDeclared ([y257, y260, (TDeclared.mk y242.Long true y242.Origin y242.Attached y242.Layer y242.Weight y242.Order)] : List TDeclared) g268, gE0] w') ?_ ?_
  ·replace hm := hz
   refine wl_start ?_
   obtain ⟨y429, hy429, hm⟩ := bindE hm
   obtain ⟨x430, hx430, hm⟩ := letE hm
   obtain ⟨x431, hx431, hm⟩ := letE hm
   obtain ⟨x432, hx432, hm⟩ := letE hm
   obtain ⟨x433, hx433, hm⟩ := letE hm
   obtain ⟨x434, hx434, hm⟩ := letE hm
   obtain ⟨x435, hx435, hm⟩ := letE hm
   obtain ⟨x436, hx436, hm⟩ := letE hm
   obtain ⟨x437, hx437, hm⟩ := letE hm
   obtain ⟨x438, hx438, hm⟩ := letE hm
   obtain ⟨x439, hx439, hm⟩ := letE hm
   obtain ⟨x440, hx440, hm⟩ := letE hm
   refine wl_batch 0 76 [(.bool y429)] [4, 42, 273] [(4, [], .slice g268.a 3 g268.c), (42, [], .slice g422.a y421.1.length g422.c), (273, [], .bool x440)] [fun wz => RetB Tryd.prog 10 ⟨[]⟩ (.bool y429) wz] H427 (by decide) (by subst hx430 hx431 hx432 hx433 hx434 hx435 hx436 hx437 hx438 hx439 hx440; kernel_rfl) ⟨(law31_alive_ok m _ hy429 _ (s0im s0nil (hS.im 2 rfl))), trivial⟩ fun _ wd441 H442 hb => ?_
   clear H427
   replace hS := hS.below hb
   clear hb
   cases x440
   case false =>
    replace hm := bF rfl hm
    refine m_skipG 273 [274, 4, 273] [(274, [], undef), (4, [], .slice g268.a 3 g268.c), (273, [], .bool false)] H442 rfl rfl rfl rfl rfl rfl fun _ H454 => ?_
    clear H442
    refine m_skipG 273 [275, 273, 274] [(275, [], undef), (273, [], .bool false), (274, [], undef)] H454 rfl rfl rfl rfl rfl rfl fun _ H455 => ?_
    clear H454
    refine m_skipG 273 [276, 273, 274] [(276, [], undef), (273, [], .bool false), (274, [], undef)] H455 rfl rfl rfl rfl rfl rfl fun _ H456 => ?_
    clear H455
    refine m_skipG 273 [277, 273] [(277, [], undef), (273, [], .bool false)] H456 rfl rfl rfl rfl rfl rfl fun _ H457 => ?_
    clear H456
    refine wl_batch 80 82 [] [0] [(0, [], .bool false)] [] H457 (by decide) (by kernel_rfl) trivial fun _ wd458 H459 hb => ?_
    clear H457
    replace hS := hS.below hb
    clear hb
    refine wl_end rfl ?_
    obtain rfl := someE hm
    exact ⟨FrG.keep (ks := [0]) H459 (by kernel_rfl), hS⟩
   replace hm := bT rfl hm
   refine wl_batchM 76 78 [] [(273, 0), (274, 1), (275, 1)] [(273, [], .bool true), (274, [], .slice g422.a y421.1.length g422.c), (275, [], .slice g268.a 3 g268.c)] [] H442 (by decide) (by kernel_rfl) trivial fun _ wd443 H444 hb => ?_
   clear H442
   replace hS := hS.below hb
   clear hb
   obtain ⟨ho445, hm⟩ := chkE hm
   obtain ⟨q446, hq446, hm⟩ := letE hm
   have hd := hS.hand [1] [0, 1, 2] rfl rfl
   refine m_stpG 273 [276, 273, 274] [(273, [], .bool true), (274, [], .slice g422.a y421.1.length g422.c)] H444 rfl rfl rfl rfl (o_sub (T := tyDeclared) (E := 31) (g := g268) (q := ([y257, y260, (TDeclared.mk y242.Long true y242.Origin y242.Attached y242.Layer y242.Weight y242.Order)] : List TDeclared)) (0 : Int) (1 : Int) .none (.some (.int .i64 1)) H444 hd (hd.im 0 rfl) rfl rfl rfl rfl rfl rfl (.inl ⟨rfl, rfl⟩) (.inr ⟨_, rfl⟩) (by kernel_rfl) (by kernel_rfl) ho445) (fun _ => rfl) fun _ wd447 v H448 hq => ?_
   clear H444 hd
   obtain ⟨g449, rfl, hq⟩ := hq
   rw [← hq446] at hq
   rw [← hq446] at H448
   replace hS : SH M X w [Ent.im tyDeclared q446 g449, Ent.im tyDeclared ([y257, y260, (TDeclared.mk y242.Long true y242.Origin y242.Attached y242.Layer y242.Weight y242.Order)] : List TDeclared) g268, Ent.own 31 tyDeclared y421.1 g422, Ent.im tyDeclared ([y257, y260, (TDeclared.mk y242.Long true y242.Origin y242.Attached y242.Layer y242.Weight y242.Order)] : List TDeclared) g268, gE0] _ := hS.join [1] [0, 1, 2] rfl rfl hq
   clear hq
   obtain ⟨y451, hy451, hm⟩ := bindE hm
   refine wl_batch 79 82 [(.bool y451)] [0] [(0, [], .bool y451)] [fun wz => (true = true ∧ True → RetB Tryd.prog 11 ⟨[.slice g422.a y421.1.length g422.c, .slice g449.a q446.length g449.c]⟩ (.bool y451) wz)] H448 (by decide) (by kernel_rfl) ⟨fun hg => r29_Same_ok (g_a_ := g422) (g_b_ := g449) m _ _ _ hy451 _ (s0im (s0im s0nil (hS.im 0 rfl)) (hS.osl 2 rfl)), trivial⟩ fun _ wd452 H453 hb => ?_
   clear H448
   replace hS := hS.below hb
   clear hb
   refine wl_end rfl ?_
   replace hS : SH M X w [Ent.im tyDeclared ([y257, y260, (TDeclared.mk y242.Long true y242.Origin y242.Attached y242.Layer y242.Weight y242.Order)] : List TDeclared) g268, Ent.own 31 tyDeclared y421.1 g422, Ent.im tyDeclared ([y257, y260, (TDeclared.mk y242.Long true y242.Origin y242.Attached y242.Layer y242.Weight y242.Order)] : List TDeclared) g268, gE0] _ := hS.sel [1, 2, 3, 4] rfl
   obtain rfl := someE hm
   replace hS : SH M X w [Ent.own 31 tyDeclared y421.1 g422, Ent.im tyDeclared ([y257, y260, (TDeclared.mk y242.Long true y242.Origin y242.Attached y242.Layer y242.Weight y242.Order)] : List TDeclared) g268, gE0] _ := hS.sel [1, 0, 3] rfl
   exact ⟨FrG.keep (ks := [0]) H453 (by kernel_rfl), hS⟩
  ·rintro _ wd460 ⟨H, hS⟩
   replace hS : SH M X w [gE0] _ := hS.sel [2] rfl
   refine w_ret ?_
   obtain rfl := someE hm
   exact retR1 H rfl rfl ⟨_, rfl, rfl, (hS.sel [] rfl)⟩
theorem law31_WideNames_ok  (m : Nat)  (r : Bool) (hm : law31_WideNames m = some r) (w : World) (hL : S0 F0 [gE0] w ∧ fpl [gE0] = []) : RetB Tryd.prog 3 ⟨[]⟩ (.bool r) w := retB_of hL (Tryd.call3 _) (fun w' h => law31_WideNames_w F0 m    r hm w' h)

end Go.Proofs.YtehlikdeobajcaaDoor
