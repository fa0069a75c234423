/-
  What the Go functions compute, as Lean functions, and that a call returns just that. Printed by a program.
-/
import Derived.Test.YtehlikdeobajcaaDoorRows
import Derived.Test.YtehlikdeobajcaaDoorRF
import Derived.Test.YtehlikdeobajcaaDoorX
import Derived.Test.YtehlikdeobajcaaDoorW31a
set_option linter.unusedVariables false
set_option maxRecDepth 20000
set_option maxHeartbeats 4000000
namespace Go.Proofs.YtehlikdeobajcaaDoor
open Go.V Go.RowKit

theorem r04_values_w (m : Nat) : ∀ (k : Nat), r04_values_S (r04_values_r m  k) := by
 intro k
 induction k with
 | zero => intro g_l_ M l_ i closer left r hm; exact noneE hm
 | succ k ih =>
  intro g_l_ M l_ i closer left r hm w hS
  rw [r04_values_r] at hm
  have hS0 : SH M (fpl [Ent.im tyToken l_ g_l_]) w [Ent.im tyToken l_ g_l_] w := hS
  generalize hX : fpl [Ent.im tyToken l_ g_l_] = X at hS0 ⊢
  clear hS hX
  have hS := hS0
  clear hS0
  refine calls_entryP Tryd.func53 rfl Tryd.ntmps53 rfl fun _ H => ?_
  refine s_reg [] [0, 1, 2, 3] [(0, [], .slice g_l_.a l_.length g_l_.c), (1, [], .int .i64 i), (2, [], .int .u8 closer), (3, [], .int .i64 left)] [] H (by kernel_rfl) trivial fun _ wd1 H2 hb => ?_
  clear H
  replace hS := hS.below hb
  clear hb
  refine s_reg [] [0, 1, 2, 3, 10] [(0, [], .slice g_l_.a l_.length g_l_.c), (1, [], .int .i64 i), (2, [], .int .u8 closer), (3, [], .int .i64 left), (10, [], .slice none 0 0)] [] H2 (by kernel_rfl) trivial fun _ wd3 H4 hb => ?_
  clear H2
  replace hS := hS.below hb
  clear hb
  obtain ⟨z5, hz, hm_z5⟩ := bindE hm
  refine w_cut (fun a' w' => ∃ s_z5 : Int × (List TValue), z5 = Sum.inr s_z5 ∧ ∃ (g74 : Gh), Fr 67 [(0, [], .slice g_l_.a l_.length g_l_.c), (1, [], .int .i64 s_z5.1), (10, [], .slice g74.a s_z5.2.length g74.c)] a' ∧ SH M X w [Ent.own 80 tyValue s_z5.2 g74, Ent.im tyToken l_ g_l_] w') ?_ ?_
  ·replace hm := hz
   refine w_block ?_
   replace hS : SH M X w [Ent.own 80 tyValue ([] : List TValue) (.nil), Ent.im tyToken l_ g_l_] _ := hS.addNil 80 tyValue
   refine w_loop (fun kk a' w' => ∃ (v7 : Int) (v8 : List TValue) (g9 : Gh), r04_values_L1 m l_ closer left (r04_values_r m k) kk v7 v8 = some _ ∧ Fr 67 [(0, [], .slice g_l_.a l_.length g_l_.c), (2, [], .int .u8 closer), (3, [], .int .i64 left), (1, [], .int .i64 v7), (10, [], .slice g9.a v8.length g9.c)] a' ∧ SH M X w [Ent.own 80 tyValue v8 g9, Ent.im tyToken l_ g_l_] w') ⟨_, i, ([] : List TValue), Gh.nil, hm, FrG.keep (ks := [0, 2, 3, 1, 10]) H4 (by kernel_rfl), hS⟩ ?_
   clear hm H4 hS
   rintro kk _ wd73 ⟨v7, v8, g9, hm, H, hS⟩
   cases kk with
   | zero => exact noneE hm
   | succ kk =>
    rw [r04_values_L1] at hm
    refine w_seq ?_
    obtain ⟨ho10, hm⟩ := chkE hm
    obtain ⟨x11, hx11, hm⟩ := letE hm
    refine s_reg [(.int .u8 ((gi l_ v7).Kind))] [0, 1, 2, 3, 10, 29] [(0, [], .slice g_l_.a l_.length g_l_.c), (1, [], .int .i64 v7), (2, [], .int .u8 closer), (3, [], .int .i64 left), (10, [], .slice g9.a v8.length g9.c), (29, [], .bool x11)] [fun _ => ((closer == 0) = false ∧ (decide (v7 < (ln l_))) = true ∧ True → oka g_l_.a ∧ 0 ≤ v7 ∧ v7 < ln l_), fun wz => ((closer == 0) = false ∧ (decide (v7 < (ln l_))) = true ∧ True → V.at1 ⟨ab g_l_.a, ao g_l_.a + (v7).toNat * 5, none⟩ (.int .u8 ((gi l_ v7).Kind)) wz)] H (by subst hx11; kernel_rfl) ⟨fun hg => (hS.im 1 rfl).oki (ho10 hg.1 hg.2.1), fun hg => (hS.im 1 rfl).at1 (ho10 hg.1 hg.2.1) 0 rfl, trivial⟩ fun _ wd12 H13 hb => ?_
    clear H
    replace hS := hS.below hb
    clear hb
    refine w_if H13 rfl (fun hc => ?_) (fun hc => ?c72)
    case c72 =>
     replace hm := bF hc hm
     refine w_exit rfl ?_
     obtain rfl := someE hm
     exact ⟨_, rfl, g9, FrG.keep (ks := [0, 1, 10]) H13 (by kernel_rfl), hS⟩
    replace hm := bT hc hm
    refine w_skip ?_
    refine w_block ?_
    refine w_seq ?_
    refine wl_start ?_
    obtain ⟨ho14, hm⟩ := chkE hm
    refine wl_batch 0 5 [(.agg ⟨[.int .u8 ((gi l_ v7).Kind), .string ⟨⟨(gi l_ v7).Text⟩⟩, .int .i64 ((gi l_ v7).Num), .string ⟨⟨(gi l_ v7).Unit⟩⟩, .bool ((gi l_ v7).Flag)]⟩)] [0, 1, 2, 3, 10, 34] [(0, [], .slice g_l_.a l_.length g_l_.c), (1, [], .int .i64 v7), (2, [], .int .u8 closer), (3, [], .int .i64 left), (10, [], .slice g9.a v8.length g9.c), (34, [], .agg ⟨[.int .u8 ((gi l_ v7).Kind), .string ⟨⟨(gi l_ v7).Text⟩⟩, .int .i64 ((gi l_ v7).Num), .string ⟨⟨(gi l_ v7).Unit⟩⟩, .bool ((gi l_ v7).Flag), .slice none 0 0]⟩)] [fun _ => oka g_l_.a ∧ 0 ≤ v7 ∧ v7 < ln l_, fun wz => V.atN (ab g_l_.a) (ao g_l_.a + (v7).toNat * 5) [.int .u8 ((gi l_ v7).Kind), .string ⟨⟨(gi l_ v7).Text⟩⟩, .int .i64 ((gi l_ v7).Num), .string ⟨⟨(gi l_ v7).Unit⟩⟩, .bool ((gi l_ v7).Flag)] 0 wz] H13 (by decide) (by kernel_rfl) ⟨((hS.im 1 rfl).oki ho14), ((hS.im 1 rfl).atA ho14 0 rfl), trivial⟩ fun _ wd15 H16 hb => ?_
    clear H13
    replace hS := hS.below hb
    clear hb
    have hd := hS.hand [] [0, 1] rfl rfl
    refine m_stp [11, 0, 1, 2, 3, 10, 34] [(0, [], .slice g_l_.a l_.length g_l_.c), (1, [], .int .i64 v7), (2, [], .int .u8 closer), (3, [], .int .i64 left), (10, [], .slice g9.a v8.length g9.c), (34, [], .agg ⟨[.int .u8 ((gi l_ v7).Kind), .string ⟨⟨(gi l_ v7).Text⟩⟩, .int .i64 ((gi l_ v7).Num), .string ⟨⟨(gi l_ v7).Unit⟩⟩, .bool ((gi l_ v7).Flag), .slice none 0 0]⟩)] H16 rfl rfl rfl rfl (o_alloc [.int .u8 0, .string ⟨⟨[]⟩⟩, .int .i64 0, .string ⟨⟨[]⟩⟩, .bool false, .slice none 0 0] (z := .agg ⟨[.int .u8 0, .string ⟨⟨[]⟩⟩, .int .i64 0, .string ⟨⟨[]⟩⟩, .bool false, .slice none 0 0]⟩) hd (by kernel_rfl) rfl) (fun _ => rfl) fun _ wd18 v H19 hq => ?_
    clear H16 hd
    obtain ⟨b17, rfl, hq⟩ := hq
    replace hS : SH M X w [Ent.blk b17 [.int .u8 0, .string ⟨⟨[]⟩⟩, .int .i64 0, .string ⟨⟨[]⟩⟩, .bool false, .slice none 0 0], Ent.own 80 tyValue v8 g9, Ent.im tyToken l_ g_l_] _ := hS.join [] [0, 1] rfl rfl hq
    clear hq
    have hd := hS.hand [0] [1, 2] rfl rfl
    refine m_stp0 [0, 1, 2, 3, 10, 11] [(0, [], .slice g_l_.a l_.length g_l_.c), (1, [], .int .i64 v7), (2, [], .int .u8 closer), (3, [], .int .i64 left), (10, [], .slice g9.a v8.length g9.c), (11, [], .pointer (some ⟨b17, 0, none⟩))] H19 rfl rfl rfl (o_store [.int .u8 ((gi l_ v7).Kind), .string ⟨⟨(gi l_ v7).Text⟩⟩, .int .i64 ((gi l_ v7).Num), .string ⟨⟨(gi l_ v7).Unit⟩⟩, .bool ((gi l_ v7).Flag), .slice none 0 0] H19 hd rfl rfl (by kernel_rfl) rfl rfl rfl) rfl fun _ wd20 H21 hq => ?_
    clear H19 hd
    obtain ⟨_, hq⟩ := hq
    replace hS : SH M X w [Ent.blk b17 [.int .u8 ((gi l_ v7).Kind), .string ⟨⟨(gi l_ v7).Text⟩⟩, .int .i64 ((gi l_ v7).Num), .string ⟨⟨(gi l_ v7).Unit⟩⟩, .bool ((gi l_ v7).Flag), .slice none 0 0], Ent.own 80 tyValue v8 g9, Ent.im tyToken l_ g_l_] _ := hS.join [0] [1, 2] rfl rfl hq
    clear hq
    refine wl_end rfl ?_
    refine s_reg [] [0, 1, 2, 3, 10, 11] [(0, [], .slice g_l_.a l_.length g_l_.c), (1, [], .int .i64 (w64 (v7 + 1))), (2, [], .int .u8 closer), (3, [], .int .i64 left), (10, [], .slice g9.a v8.length g9.c), (11, [], .pointer (some ⟨b17, 0, none⟩))] [] H21 (by kernel_rfl) trivial fun _ wd22 H23 hb => ?_
    clear H21
    replace hS := hS.below hb
    clear hb
    obtain ⟨z24, hz, hm_z24⟩ := bindE hm
    refine w_cut (fun a' w' => ∃ s_z24 : Int × (List TValue), z24 = Sum.inr s_z24 ∧ ∃ (g56 : Gh), Fr 67 [(0, [], .slice g_l_.a l_.length g_l_.c), (2, [], .int .u8 closer), (3, [], .int .i64 left), (10, [], .slice g9.a v8.length g9.c), (11, [], .pointer (some ⟨b17, 0, none⟩)), (1, [], .int .i64 s_z24.1)] a' ∧ SH M X w [Ent.own 80 tyValue s_z24.2 g56, Ent.blk b17 [.int .u8 ((gi l_ v7).Kind), .string ⟨⟨(gi l_ v7).Text⟩⟩, .int .i64 ((gi l_ v7).Num), .string ⟨⟨(gi l_ v7).Unit⟩⟩, .bool ((gi l_ v7).Flag), .slice g56.a s_z24.2.length g56.c], Ent.own 80 tyValue v8 g9, Ent.im tyToken l_ g_l_] w') ?_ ?_
    ·replace hm := hz
     refine s_reg [(.int .u8 ((gi l_ v7).Kind)), (.int .u8 (r04_Closer ((gi l_ v7).Kind)))] [0, 1, 2, 3, 10, 11, 12] [(0, [], .slice g_l_.a l_.length g_l_.c), (1, [], .int .i64 (w64 (v7 + 1))), (2, [], .int .u8 closer), (3, [], .int .i64 left), (10, [], .slice g9.a v8.length g9.c), (11, [], .pointer (some ⟨b17, 0, none⟩)), (12, [], .int .u8 (r04_Closer ((gi l_ v7).Kind)))] [fun wz => V.at1 ⟨b17, 0, none⟩ (.int .u8 ((gi l_ v7).Kind)) wz, fun wz => RetB Tryd.prog 54 ⟨[.int .u8 ((gi l_ v7).Kind)]⟩ (.int .u8 (r04_Closer ((gi l_ v7).Kind))) wz] H23 (by kernel_rfl) ⟨((hS.bk 0 rfl).at1 rfl), ((r04_Closer_ok _).b), trivial⟩ fun _ wd25 H26 hb => ?_
     clear H23
     replace hS := hS.below hb
     clear hb
     refine s_reg [] [0, 1, 2, 3, 10, 11, 12, 42] [(0, [], .slice g_l_.a l_.length g_l_.c), (1, [], .int .i64 (w64 (v7 + 1))), (2, [], .int .u8 closer), (3, [], .int .i64 left), (10, [], .slice g9.a v8.length g9.c), (11, [], .pointer (some ⟨b17, 0, none⟩)), (12, [], .int .u8 (r04_Closer ((gi l_ v7).Kind))), (42, [], .bool ((r04_Closer ((gi l_ v7).Kind)) != 0))] [] H26 (by kernel_rfl) trivial fun _ wd27 H28 hb => ?_
     clear H26
     replace hS := hS.below hb
     clear hb
     refine w_if H28 rfl (fun hc => ?_) (fun hc => ?c55)
     case c55 =>
      replace hm := bF hc hm
      refine w_skip ?_
      obtain rfl := someE hm
      replace hS : SH M X w [Ent.own 80 tyValue ([] : List TValue) (.nil), Ent.blk b17 [.int .u8 ((gi l_ v7).Kind), .string ⟨⟨(gi l_ v7).Text⟩⟩, .int .i64 ((gi l_ v7).Num), .string ⟨⟨(gi l_ v7).Unit⟩⟩, .bool ((gi l_ v7).Flag), .slice none 0 0], Ent.own 80 tyValue v8 g9, Ent.im tyToken l_ g_l_] _ := hS.addNil 80 tyValue
      exact ⟨_, rfl, Gh.nil, FrG.keep (ks := [0, 2, 3, 10, 11, 1]) H28 (by kernel_rfl), hS⟩
     replace hm := bT hc hm
     refine w_seq ?_
     refine s_reg [] [0, 1, 2, 3, 10, 11, 12, 44] [(0, [], .slice g_l_.a l_.length g_l_.c), (1, [], .int .i64 (w64 (v7 + 1))), (2, [], .int .u8 closer), (3, [], .int .i64 left), (10, [], .slice g9.a v8.length g9.c), (11, [], .pointer (some ⟨b17, 0, none⟩)), (12, [], .int .u8 (r04_Closer ((gi l_ v7).Kind))), (44, [], .bool (left == 0))] [] H28 (by kernel_rfl) trivial fun _ wd29 H30 hb => ?_
     clear H28
     replace hS := hS.below hb
     clear hb
     refine w_if H30 rfl (fun hc => ?c53) (fun hc => ?_)
     case c53 =>
      replace hm := bT hc hm
      refine s_reg [] [8, 9] [(8, [], .slice none 0 0), (9, [], .int .i64 (-1))] [] H30 (by kernel_rfl) trivial fun _ wd31 H32 hb => ?_
      clear H30
      replace hS := hS.below hb
      clear hb
      refine w_ret ?_
      obtain rfl := someE hm
      have hm := hm_z24
      obtain rfl := someE hm
      have hm := hm_z5
      obtain rfl := someE hm
      replace hS : SH M X w [Ent.own 80 tyValue ([] : List TValue) (.nil), Ent.blk b17 [.int .u8 ((gi l_ v7).Kind), .string ⟨⟨(gi l_ v7).Text⟩⟩, .int .i64 ((gi l_ v7).Num), .string ⟨⟨(gi l_ v7).Unit⟩⟩, .bool ((gi l_ v7).Flag), .slice none 0 0], Ent.own 80 tyValue v8 g9, Ent.im tyToken l_ g_l_] _ := hS.addNil 80 tyValue
      exact retR2 H32 rfl rfl rfl ⟨_, rfl, Gh.nil, rfl, (hS.sel [0] rfl)⟩
     replace hm := bF hc hm
     refine w_skip ?_
     refine w_seq ?_
     refine wl_start ?_
     refine wl_batch 0 5 [] [0, 2, 3, 10, 11, 46, 47, 48, 50] [(0, [], .slice g_l_.a l_.length g_l_.c), (2, [], .int .u8 closer), (3, [], .int .i64 left), (10, [], .slice g9.a v8.length g9.c), (11, [], .pointer (some ⟨b17, 0, none⟩)), (46, [], .slice g_l_.a l_.length g_l_.c), (47, [], .int .i64 (w64 (v7 + 1))), (48, [], .int .u8 (r04_Closer ((gi l_ v7).Kind))), (50, [], .int .i64 (w64 (left - 1)))] [] H30 (by decide) (by kernel_rfl) trivial fun _ wd34 H35 hb => ?_
     clear H30
     replace hS := hS.below hb
     clear hb
     obtain ⟨y36, hy36, hm⟩ := bindE hm
     have hd := hS.hand [2] [0, 1, 2] rfl rfl
     refine m_stp [51, 0, 2, 3, 10, 11] [(0, [], .slice g_l_.a l_.length g_l_.c), (2, [], .int .u8 closer), (3, [], .int .i64 left), (10, [], .slice g9.a v8.length g9.c), (11, [], .pointer (some ⟨b17, 0, none⟩))] H35 rfl rfl rfl rfl (o_callx H35 rfl rfl (⟨Tryd.call53 _, ih (g_l_) _ _ _ _ _ _ hy36 _ hd⟩ : DoesX _ _ _ _ _)) (fun _ => rfl) fun _ wd39 v H40 hq => ?_
     clear H35 hd
     obtain ⟨g37, rfl, hq⟩ := hq
     replace hS : SH M X w [Ent.own 80 tyValue y36.1 g37, Ent.blk b17 [.int .u8 ((gi l_ v7).Kind), .string ⟨⟨(gi l_ v7).Text⟩⟩, .int .i64 ((gi l_ v7).Num), .string ⟨⟨(gi l_ v7).Unit⟩⟩, .bool ((gi l_ v7).Flag), .slice none 0 0], Ent.own 80 tyValue v8 g9, Ent.im tyToken l_ g_l_] _ := hS.join [2] [0, 1, 2] rfl rfl hq
     clear hq
     refine wl_batch 6 10 [] [0, 2, 3, 10, 11, 52, 53, 54] [(0, [], .slice g_l_.a l_.length g_l_.c), (2, [], .int .u8 closer), (3, [], .int .i64 left), (10, [], .slice g9.a v8.length g9.c), (11, [], .pointer (some ⟨b17, 0, none⟩)), (52, [], .slice g37.a y36.1.length g37.c), (53, [], .int .i64 y36.2), (54, [], .pointer (some ⟨b17, 5, none⟩))] [] H40 (by decide) (by kernel_rfl) trivial fun _ wd41 H42 hb => ?_
     clear H40
     replace hS := hS.below hb
     clear hb
     have hd := hS.hand [1] [0, 2, 3] rfl rfl
     refine m_stp0 [0, 2, 3, 10, 11, 53] [(0, [], .slice g_l_.a l_.length g_l_.c), (2, [], .int .u8 closer), (3, [], .int .i64 left), (10, [], .slice g9.a v8.length g9.c), (11, [], .pointer (some ⟨b17, 0, none⟩)), (53, [], .int .i64 y36.2)] H42 rfl rfl rfl (o_store [.int .u8 ((gi l_ v7).Kind), .string ⟨⟨(gi l_ v7).Text⟩⟩, .int .i64 ((gi l_ v7).Num), .string ⟨⟨(gi l_ v7).Unit⟩⟩, .bool ((gi l_ v7).Flag), .slice g37.a y36.1.length g37.c] H42 hd rfl rfl (by kernel_rfl) rfl rfl rfl) rfl fun _ wd43 H44 hq => ?_
     clear H42 hd
     obtain ⟨_, hq⟩ := hq
     replace hS : SH M X w [Ent.blk b17 [.int .u8 ((gi l_ v7).Kind), .string ⟨⟨(gi l_ v7).Text⟩⟩, .int .i64 ((gi l_ v7).Num), .string ⟨⟨(gi l_ v7).Unit⟩⟩, .bool ((gi l_ v7).Flag), .slice g37.a y36.1.length g37.c], Ent.own 80 tyValue y36.1 g37, Ent.own 80 tyValue v8 g9, Ent.im tyToken l_ g_l_] _ := hS.join [1] [0, 2, 3] rfl rfl hq
     clear hq
     refine wl_batch 11 12 [] [0, 1, 2, 3, 10, 11] [(0, [], .slice g_l_.a l_.length g_l_.c), (1, [], .int .i64 y36.2), (2, [], .int .u8 closer), (3, [], .int .i64 left), (10, [], .slice g9.a v8.length g9.c), (11, [], .pointer (some ⟨b17, 0, none⟩))] [] H44 (by decide) (by kernel_rfl) trivial fun _ wd45 H46 hb => ?_
     clear H44
     replace hS := hS.below hb
     clear hb
     refine wl_end rfl ?_
     refine s_reg [] [0, 1, 2, 3, 10, 11, 56] [(0, [], .slice g_l_.a l_.length g_l_.c), (1, [], .int .i64 y36.2), (2, [], .int .u8 closer), (3, [], .int .i64 left), (10, [], .slice g9.a v8.length g9.c), (11, [], .pointer (some ⟨b17, 0, none⟩)), (56, [], .bool (decide (y36.2 < 0)))] [] H46 (by kernel_rfl) trivial fun _ wd47 H48 hb => ?_
     clear H46
     replace hS := hS.below hb
     clear hb
     refine w_if H48 rfl (fun hc => ?_) (fun hc => ?c52)
     case c52 =>
      replace hm := bF hc hm
      refine w_skip ?_
      obtain rfl := someE hm
      replace hS : SH M X w [Ent.own 80 tyValue y36.1 g37, Ent.blk b17 [.int .u8 ((gi l_ v7).Kind), .string ⟨⟨(gi l_ v7).Text⟩⟩, .int .i64 ((gi l_ v7).Num), .string ⟨⟨(gi l_ v7).Unit⟩⟩, .bool ((gi l_ v7).Flag), .slice g37.a y36.1.length g37.c], Ent.own 80 tyValue v8 g9, Ent.im tyToken l_ g_l_] _ := hS.sel [1, 0, 2, 3] rfl
      exact ⟨_, rfl, g37, FrG.keep (ks := [0, 2, 3, 10, 11, 1]) H48 (by kernel_rfl), hS⟩
     replace hm := bT hc hm
     refine s_reg [] [8, 9] [(8, [], .slice none 0 0), (9, [], .int .i64 (-1))] [] H48 (by kernel_rfl) trivial fun _ wd49 H50 hb => ?_
     clear H48
     replace hS := hS.below hb
     clear hb
     replace hS : SH M X w [Ent.blk b17 [.int .u8 ((gi l_ v7).Kind), .string ⟨⟨(gi l_ v7).Text⟩⟩, .int .i64 ((gi l_ v7).Num), .string ⟨⟨(gi l_ v7).Unit⟩⟩, .bool ((gi l_ v7).Flag), .slice g37.a y36.1.length g37.c], Ent.own 80 tyValue v8 g9, Ent.im tyToken l_ g_l_] _ := hS.sel [0, 2, 3] rfl
     refine w_ret ?_
     obtain rfl := someE hm
     have hm := hm_z24
     obtain rfl := someE hm
     have hm := hm_z5
     obtain rfl := someE hm
     replace hS : SH M X w [Ent.own 80 tyValue ([] : List TValue) (.nil), Ent.blk b17 [.int .u8 ((gi l_ v7).Kind), .string ⟨⟨(gi l_ v7).Text⟩⟩, .int .i64 ((gi l_ v7).Num), .string ⟨⟨(gi l_ v7).Unit⟩⟩, .bool ((gi l_ v7).Flag), .slice g37.a y36.1.length g37.c], Ent.own 80 tyValue v8 g9, Ent.im tyToken l_ g_l_] _ := hS.addNil 80 tyValue
     exact retR2 H50 rfl rfl rfl ⟨_, rfl, Gh.nil, rfl, (hS.sel [0] rfl)⟩
    ·rintro _ wd71 ⟨s_z24, hz, g56, H, hS⟩
     subst hz
     replace hm := sumR hm_z24
     refine wl_start ?_
     refine wl_batch 0 2 [(.agg ⟨[.int .u8 ((gi l_ v7).Kind), .string ⟨⟨(gi l_ v7).Text⟩⟩, .int .i64 ((gi l_ v7).Num), .string ⟨⟨(gi l_ v7).Unit⟩⟩, .bool ((gi l_ v7).Flag), .slice g56.a s_z24.2.length g56.c]⟩)] [0, 1, 2, 3, 57, 58] [(0, [], .slice g_l_.a l_.length g_l_.c), (1, [], .int .i64 s_z24.1), (2, [], .int .u8 closer), (3, [], .int .i64 left), (57, [], .slice g9.a v8.length g9.c), (58, [], .agg ⟨[.int .u8 ((gi l_ v7).Kind), .string ⟨⟨(gi l_ v7).Text⟩⟩, .int .i64 ((gi l_ v7).Num), .string ⟨⟨(gi l_ v7).Unit⟩⟩, .bool ((gi l_ v7).Flag), .slice g56.a s_z24.2.length g56.c]⟩)] [fun wz => V.atN b17 0 [.int .u8 ((gi l_ v7).Kind), .string ⟨⟨(gi l_ v7).Text⟩⟩, .int .i64 ((gi l_ v7).Num), .string ⟨⟨(gi l_ v7).Unit⟩⟩, .bool ((gi l_ v7).Flag), .slice g56.a s_z24.2.length g56.c] 0 wz] H (by decide) (by kernel_rfl) ⟨((hS.bk 1 rfl).atD rfl), trivial⟩ fun _ wd58 H59 hb => ?_
     clear H
     replace hS := hS.below hb
     clear hb
     replace hS : SH M X w [Ent.im tyValue s_z24.2 g56, Ent.blk b17 [.int .u8 ((gi l_ v7).Kind), .string ⟨⟨(gi l_ v7).Text⟩⟩, .int .i64 ((gi l_ v7).Num), .string ⟨⟨(gi l_ v7).Unit⟩⟩, .bool ((gi l_ v7).Flag), .slice g56.a s_z24.2.length g56.c], Ent.own 80 tyValue v8 g9, Ent.im tyToken l_ g_l_] _ := SH.frz1 (hS.sel [0, 1, 2, 3] rfl)
     have hd := hS.hand [0] [0, 1, 2, 3] rfl rfl
     refine m_stp [59, 0, 1, 2, 3, 57] [(0, [], .slice g_l_.a l_.length g_l_.c), (1, [], .int .i64 s_z24.1), (2, [], .int .u8 closer), (3, [], .int .i64 left), (57, [], .slice g9.a v8.length g9.c)] H59 rfl rfl rfl rfl (o_lit (T := tyValue) (E := 80) (zv := .agg ⟨[.int .u8 0, .string ⟨⟨[]⟩⟩, .int .i64 0, .string ⟨⟨[]⟩⟩, .bool false, .slice none 0 0]⟩) [.int .u8 ((gi l_ v7).Kind), .string ⟨⟨(gi l_ v7).Text⟩⟩, .int .i64 ((gi l_ v7).Num), .string ⟨⟨(gi l_ v7).Unit⟩⟩, .bool ((gi l_ v7).Flag), .slice g56.a s_z24.2.length g56.c] ([(TValue.mk (gi l_ v7) s_z24.2)] : List TValue) [gL [g56]] _ H59 hd rfl (by kernel_rfl) (by kernel_rfl) (by kernel_rfl) (by kernel_rfl) (by kernel_rfl) (by kernel_rfl) (by kernel_rfl) rfl (InnL.cons (tyValue_mk (hd.im 0 rfl)) InnL.nil)) (fun _ => rfl) fun _ wd62 v H63 hq => ?_
     clear H59 hd
     obtain ⟨g60, rfl, hq⟩ := hq
     replace hS : SH M X w [Ent.own 80 tyValue ([(TValue.mk (gi l_ v7) s_z24.2)] : List TValue) g60, Ent.im tyValue s_z24.2 g56, Ent.blk b17 [.int .u8 ((gi l_ v7).Kind), .string ⟨⟨(gi l_ v7).Text⟩⟩, .int .i64 ((gi l_ v7).Num), .string ⟨⟨(gi l_ v7).Unit⟩⟩, .bool ((gi l_ v7).Flag), .slice g56.a s_z24.2.length g56.c], Ent.own 80 tyValue v8 g9, Ent.im tyToken l_ g_l_] _ := hS.join [0] [0, 1, 2, 3] rfl rfl hq
     clear hq
     obtain ⟨ho64, hm⟩ := chkE hm
     obtain ⟨q65, hq65, hm⟩ := letE hm
     have hd := hS.hand [3, 0] [1, 2, 4] rfl rfl
     refine m_stp [60, 0, 1, 2, 3] [(0, [], .slice g_l_.a l_.length g_l_.c), (1, [], .int .i64 s_z24.1), (2, [], .int .u8 closer), (3, [], .int .i64 left)] H63 rfl rfl rfl rfl (o_app2 (T := tyValue) (zv := .agg ⟨[.int .u8 0, .string ⟨⟨[]⟩⟩, .int .i64 0, .string ⟨⟨[]⟩⟩, .bool false, .slice none 0 0]⟩) (g1 := g9) (g2 := g60) (l1 := v8) (l2 := ([(TValue.mk (gi l_ v7) s_z24.2)] : List TValue)) q65 hq65.symm H63 hd rfl rfl rfl rfl rfl rfl rfl (by kernel_rfl) (by kernel_rfl) rfl rfl ho64) (fun _ => rfl) fun _ wd66 v H67 hq => ?_
     clear H63 hd
     obtain ⟨g68, rfl, hq⟩ := hq
     replace hS : SH M X w [Ent.own 80 tyValue q65 g68, Ent.own 80 tyValue ([(TValue.mk (gi l_ v7) s_z24.2)] : List TValue) g60, Ent.im tyValue s_z24.2 g56, Ent.blk b17 [.int .u8 ((gi l_ v7).Kind), .string ⟨⟨(gi l_ v7).Text⟩⟩, .int .i64 ((gi l_ v7).Num), .string ⟨⟨(gi l_ v7).Unit⟩⟩, .bool ((gi l_ v7).Flag), .slice g56.a s_z24.2.length g56.c], Ent.im tyToken l_ g_l_] _ := hS.join [3, 0] [1, 2, 4] rfl rfl hq
     clear hq
     refine wl_batch 4 5 [] [0, 1, 2, 3, 10] [(0, [], .slice g_l_.a l_.length g_l_.c), (1, [], .int .i64 s_z24.1), (2, [], .int .u8 closer), (3, [], .int .i64 left), (10, [], .slice g68.a q65.length g68.c)] [] H67 (by decide) (by kernel_rfl) trivial fun _ wd69 H70 hb => ?_
     clear H67
     replace hS := hS.below hb
     clear hb
     refine wl_end rfl ?_
     replace hS : SH M X w [Ent.own 80 tyValue q65 g68, Ent.im tyToken l_ g_l_] _ := hS.sel [0, 4] rfl
     exact ⟨_, Nat.lt_succ_self _, s_z24.1, q65, g68, hm, FrG.keep (ks := [0, 2, 3, 1, 10]) H70 (by kernel_rfl), hS⟩
  ·rintro _ wd79 ⟨s_z5, hz, g74, H, hS⟩
   subst hz
   replace hm := sumR hm_z5
   obtain ⟨x76, hx76, hm⟩ := letE hm
   refine s_reg [] [8, 9] [(8, [], .slice g74.a s_z5.2.length g74.c), (9, [], .int .i64 x76)] [] H (by subst hx76; kernel_rfl) trivial fun _ wd77 H78 hb => ?_
   clear H
   replace hS := hS.below hb
   clear hb
   replace hS : SH M X w [Ent.own 80 tyValue s_z5.2 g74] _ := hS.sel [0] rfl
   refine w_ret ?_
   obtain rfl := someE hm
   exact retR2 H78 rfl rfl rfl ⟨_, rfl, g74, rfl, (hS.sel [0] rfl)⟩
def r04_values (m : Nat) (l_ : List TToken) (i : Int) (closer : Int) (left : Int) : Option ((List TValue) × Int) := r04_values_r m  m l_ i closer left
theorem r04_values_ok {g_l_ : Gh} (m : Nat) (l_ : List TToken) (i : Int) (closer : Int) (left : Int) (r : (List TValue) × Int) (hm : r04_values m l_ i closer left = some r) (M : Av) (w : World) (hS : S0 M [Ent.im tyToken l_ g_l_] w) : DoesX Tryd.prog 53 ⟨[.slice g_l_.a l_.length g_l_.c, .int .i64 i, .int .u8 closer, .int .i64 left]⟩ w (fun v w' => ∃ (g901 : Gh), v = .tuple ⟨[.slice g901.a r.1.length g901.c, .int .i64 r.2]⟩ ∧ SH M (fpl [Ent.im tyToken l_ g_l_]) w [Ent.own 80 tyValue r.1 g901] w') := ⟨Tryd.call53 _, r04_values_w m   m g_l_ M l_ i closer left r hm w hS⟩

def r04_Parsed (m : Nat) (l_ : List TToken) : Option ((List TValue) × Bool) :=
  Option.bind (r04_values m l_ 0 0 16) fun y5 =>
  some (y5.1, decide (0 ≤ y5.2))
theorem r04_Parsed_w {g_l_ : Gh} (M : Av) (m : Nat) (l_ : List TToken) (r : (List TValue) × Bool) (hm : r04_Parsed m l_ = some r) (w : World) (hS : S0 M [Ent.im tyToken l_ g_l_] w) : Calls Tryd.prog 34 ⟨[.slice g_l_.a l_.length g_l_.c]⟩ w (fun e w' => ∃ v, e = .returned v ∧ ∃ (g901 : Gh), v = .tuple ⟨[.slice g901.a r.1.length g901.c, .bool r.2]⟩ ∧ SH M (fpl [Ent.im tyToken l_ g_l_]) w [Ent.own 80 tyValue r.1 g901] w') := by
 rw [r04_Parsed] at hm
 have hS0 : SH M (fpl [Ent.im tyToken l_ g_l_]) w [Ent.im tyToken l_ g_l_] w := hS
 generalize hX : fpl [Ent.im tyToken l_ g_l_] = X at hS0 ⊢
 clear hS hX
 have hS := hS0
 clear hS0
 refine calls_entryP Tryd.func34 rfl Tryd.ntmps34 rfl fun _ H => ?_
 refine s_reg [] [0] [(0, [], .slice g_l_.a l_.length g_l_.c)] [] H (by kernel_rfl) trivial fun _ wd1 H2 hb => ?_
 clear H
 replace hS := hS.below hb
 clear hb
 refine w_seq ?_
 refine wl_start ?_
 refine wl_batch 0 1 [] [7] [(7, [], .slice g_l_.a l_.length g_l_.c)] [] H2 (by decide) (by kernel_rfl) trivial fun _ wd3 H4 hb => ?_
 clear H2
 replace hS := hS.below hb
 clear hb
 obtain ⟨y5, hy5, hm⟩ := bindE hm
 have hd := hS.hand [0] [0] rfl rfl
 refine m_stp [8] [] H4 rfl rfl rfl rfl (o_callx H4 rfl rfl (r04_values_ok (g_l_ := g_l_) m _ _ _ _ _ hy5 _ _ hd)) (fun _ => rfl) fun _ wd8 v H9 hq => ?_
 clear H4 hd
 obtain ⟨g6, rfl, hq⟩ := hq
 replace hS : SH M X w [Ent.own 80 tyValue y5.1 g6, Ent.im tyToken l_ g_l_] _ := hS.join [0] [0] rfl rfl hq
 clear hq
 refine wl_batch 2 7 [] [4, 5] [(4, [], .slice g6.a y5.1.length g6.c), (5, [], .int .i64 y5.2)] [] H9 (by decide) (by kernel_rfl) trivial fun _ wd10 H11 hb => ?_
 clear H9
 replace hS := hS.below hb
 clear hb
 refine wl_end rfl ?_
 replace hS : SH M X w [Ent.own 80 tyValue y5.1 g6] _ := hS.sel [0] rfl
 refine s_reg [] [2, 3] [(2, [], .slice g6.a y5.1.length g6.c), (3, [], .bool (decide (0 ≤ y5.2)))] [] H11 (by kernel_rfl) trivial fun _ wd12 H13 hb => ?_
 clear H11
 replace hS := hS.below hb
 clear hb
 refine w_ret ?_
 obtain rfl := someE hm
 exact retR2 H13 rfl rfl rfl ⟨_, rfl, g6, rfl, (hS.sel [0] rfl)⟩
theorem r04_Parsed_ok {g_l_ : Gh} (m : Nat) (l_ : List TToken) (r : (List TValue) × Bool) (hm : r04_Parsed m l_ = some r) (M : Av) (w : World) (hS : S0 M [Ent.im tyToken l_ g_l_] w) : DoesX Tryd.prog 34 ⟨[.slice g_l_.a l_.length g_l_.c]⟩ w (fun v w' => ∃ (g901 : Gh), v = .tuple ⟨[.slice g901.a r.1.length g901.c, .bool r.2]⟩ ∧ SH M (fpl [Ent.im tyToken l_ g_l_]) w [Ent.own 80 tyValue r.1 g901] w') := ⟨Tryd.call34 _, r04_Parsed_w M m   l_ r hm w hS⟩

def r04_Tokens_S (rec_ : (List TValue) → Option (List TToken)) : Prop := ∀ (g_v_ : Gh) (M : Av) (v_ : List TValue) (r : List TToken), rec_ v_ = some r → ∀ w, S0 M [Ent.im tyValue v_ g_v_] w → Calls Tryd.prog 35 ⟨[.slice g_v_.a v_.length g_v_.c]⟩ w (fun e w' => ∃ v, e = .returned v ∧ ∃ (g901 : Gh), v = .slice g901.a r.length g901.c ∧ SH M (fpl [Ent.im tyValue v_ g_v_]) w [Ent.own 78 tyToken r g901] w')
def r04_Tokens_L1 (m : Nat) (v_ : List TValue) (rec_r04_Tokens : (List TValue) → Option (List TToken)) : Nat → (List TToken) → Int → Option (List TToken)
  | 0, _, _ => none
  | kk + 1, v9, v11 =>
    cond (decide (v11 < (ln v_))) (
    Option.bind (
    chk (0 ≤ v11 ∧ v11 < ln v_) <|
    chk (ln v9 + ln ([(gi v_ v11).Token] : List TToken) ≤ 1099511627776) <|
    lt (v9 ++ ([(gi v_ v11).Token] : List TToken)) fun q23 =>
    lt ((r04_Closer ((gi v_ v11).Token.Kind)) != 0) fun x31 =>
    cond x31 (
    Option.bind (rec_r04_Tokens ((gi v_ v11).List_)) fun y37 =>
    chk (ln q23 + ln y37 ≤ 1099511627776) <|
    lt (q23 ++ y37) fun q43 =>
    chk (ln q43 + ln ([(TToken.mk (r04_Closer ((gi v_ v11).Token.Kind)) [] 0 [] false)] : List TToken) ≤ 1099511627776) <|
    lt (q43 ++ ([(TToken.mk (r04_Closer ((gi v_ v11).Token.Kind)) [] 0 [] false)] : List TToken)) fun q56 =>
    some q56) (
    some q23)) fun (z14 : List TToken) =>
    r04_Tokens_L1 m v_ rec_r04_Tokens kk z14 (w64 (v11 + 1))) (
    some v9)
def r04_Tokens_r (m : Nat) : Nat → (List TValue) → Option (List TToken)
  | 0, _ => none
  | k + 1, v_ =>
    Option.bind (
    r04_Tokens_L1 m v_ (r04_Tokens_r m k) m ([] : List TToken) 0) fun (z5 : List TToken) =>
    some z5
theorem r04_Tokens_w (m : Nat) : ∀ (k : Nat), r04_Tokens_S (r04_Tokens_r m  k) := by
 intro k
 induction k with
 | zero => intro g_v_ M v_ r hm; exact noneE hm
 | succ k ih =>
  intro g_v_ M v_ r hm w hS
  rw [r04_Tokens_r] at hm
  have hS0 : SH M (fpl [Ent.im tyValue v_ g_v_]) w [Ent.im tyValue v_ g_v_] w := hS
  generalize hX : fpl [Ent.im tyValue v_ g_v_] = X at hS0 ⊢
  clear hS hX
  have hS := hS0
  clear hS0
  refine calls_entryP Tryd.func35 rfl Tryd.ntmps35 rfl fun _ H => ?_
  refine s_reg [] [0] [(0, [], .slice g_v_.a v_.length g_v_.c)] [] H (by kernel_rfl) trivial fun _ wd1 H2 hb => ?_
  clear H
  replace hS := hS.below hb
  clear hb
  refine s_reg [] [0, 3] [(0, [], .slice g_v_.a v_.length g_v_.c), (3, [], .slice none 0 0)] [] H2 (by kernel_rfl) trivial fun _ wd3 H4 hb => ?_
  clear H2
  replace hS := hS.below hb
  clear hb
  obtain ⟨z5, hz, hm⟩ := bindE hm
  refine w_cut (fun a' w' => ∃ (g69 : Gh), Fr 43 [(3, [], .slice g69.a z5.length g69.c)] a' ∧ SH M X w [Ent.own 78 tyToken z5 g69, Ent.im tyValue v_ g_v_] w') ?_ ?_
  ·replace hm := hz
   refine s_reg [] [0, 3, 4] [(0, [], .slice g_v_.a v_.length g_v_.c), (3, [], .slice none 0 0), (4, [], .int .i64 0)] [] H4 (by kernel_rfl) trivial fun _ wd6 H7 hb => ?_
   clear H4
   replace hS := hS.below hb
   clear hb
   refine w_block ?_
   replace hS : SH M X w [Ent.own 78 tyToken ([] : List TToken) (.nil), Ent.im tyValue v_ g_v_] _ := hS.addNil 78 tyToken
   refine w_loop (fun kk a' w' => ∃ (v9 : List TToken) (v11 : Int) (g10 : Gh), r04_Tokens_L1 m v_ (r04_Tokens_r m k) kk v9 v11 = some _ ∧ Fr 43 [(0, [], .slice g_v_.a v_.length g_v_.c), (3, [], .slice g10.a v9.length g10.c), (4, [], .int .i64 v11)] a' ∧ SH M X w [Ent.own 78 tyToken v9 g10, Ent.im tyValue v_ g_v_] w') ⟨_, ([] : List TToken), 0, Gh.nil, hm, FrG.keep (ks := [0, 3, 4]) H7 (by kernel_rfl), hS⟩ ?_
   clear hm H7 hS
   rintro kk _ wd68 ⟨v9, v11, g10, hm, H, hS⟩
   cases kk with
   | zero => exact noneE hm
   | succ kk =>
    rw [r04_Tokens_L1] at hm
    refine w_seq ?_
    refine s_reg [] [0, 3, 4, 9] [(0, [], .slice g_v_.a v_.length g_v_.c), (3, [], .slice g10.a v9.length g10.c), (4, [], .int .i64 v11), (9, [], .bool (decide (v11 < (ln v_))))] [] H (by kernel_rfl) trivial fun _ wd12 H13 hb => ?_
    clear H
    replace hS := hS.below hb
    clear hb
    refine w_if H13 rfl (fun hc => ?_) (fun hc => ?c67)
    case c67 =>
     replace hm := bF hc hm
     refine w_exit rfl ?_
     obtain rfl := someE hm
     exact ⟨g10, FrG.keep (ks := [3]) H13 (by kernel_rfl), hS⟩
    replace hm := bT hc hm
    refine w_skip ?_
    obtain ⟨z14, hz, hm⟩ := bindE hm
    refine w_cut (fun a' w' => ∃ (g63 : Gh), Fr 43 [(0, [], .slice g_v_.a v_.length g_v_.c), (4, [], .int .i64 v11), (3, [], .slice g63.a z14.length g63.c)] a' ∧ SH M X w [Ent.own 78 tyToken z14 g63, Ent.im tyValue v_ g_v_] w') ?_ ?_
    ·replace hm := hz
     refine w_block ?_
     refine w_seq ?_
     refine wl_start ?_
     obtain ⟨ho15, hm⟩ := chkE hm
     refine wl_batch 0 6 [(.agg ⟨[.int .u8 ((gi v_ v11).Token.Kind), .string ⟨⟨(gi v_ v11).Token.Text⟩⟩, .int .i64 ((gi v_ v11).Token.Num), .string ⟨⟨(gi v_ v11).Token.Unit⟩⟩, .bool ((gi v_ v11).Token.Flag)]⟩)] [0, 4, 12, 17] [(0, [], .slice g_v_.a v_.length g_v_.c), (4, [], .int .i64 v11), (12, [], .slice g10.a v9.length g10.c), (17, [], .agg ⟨[.int .u8 ((gi v_ v11).Token.Kind), .string ⟨⟨(gi v_ v11).Token.Text⟩⟩, .int .i64 ((gi v_ v11).Token.Num), .string ⟨⟨(gi v_ v11).Token.Unit⟩⟩, .bool ((gi v_ v11).Token.Flag)]⟩)] [fun _ => oka g_v_.a ∧ 0 ≤ v11 ∧ v11 < ln v_, fun wz => V.atN (ab g_v_.a) (ao g_v_.a + (v11).toNat * 6) [.int .u8 ((gi v_ v11).Token.Kind), .string ⟨⟨(gi v_ v11).Token.Text⟩⟩, .int .i64 ((gi v_ v11).Token.Num), .string ⟨⟨(gi v_ v11).Token.Unit⟩⟩, .bool ((gi v_ v11).Token.Flag)] 0 wz] H13 (by decide) (by kernel_rfl) ⟨((hS.im 1 rfl).oki ho15), ((hS.im 1 rfl).atA ho15 0 rfl), trivial⟩ fun _ wd16 H17 hb => ?_
     clear H13
     replace hS := hS.below hb
     clear hb
     have hd := hS.hand [] [0, 1] rfl rfl
     refine m_stp [18, 0, 4, 12] [(0, [], .slice g_v_.a v_.length g_v_.c), (4, [], .int .i64 v11), (12, [], .slice g10.a v9.length g10.c)] H17 rfl rfl rfl rfl (o_lit (T := tyToken) (E := 78) (zv := .agg ⟨[.int .u8 0, .string ⟨⟨[]⟩⟩, .int .i64 0, .string ⟨⟨[]⟩⟩, .bool false]⟩) [.int .u8 ((gi v_ v11).Token.Kind), .string ⟨⟨(gi v_ v11).Token.Text⟩⟩, .int .i64 ((gi v_ v11).Token.Num), .string ⟨⟨(gi v_ v11).Token.Unit⟩⟩, .bool ((gi v_ v11).Token.Flag)] ([(gi v_ v11).Token] : List TToken) [gL []] _ H17 hd rfl (by kernel_rfl) (by kernel_rfl) (by kernel_rfl) (by kernel_rfl) (by kernel_rfl) (by kernel_rfl) (by kernel_rfl) rfl (InnL.cons trivial InnL.nil)) (fun _ => rfl) fun _ wd20 v H21 hq => ?_
     clear H17 hd
     obtain ⟨g18, rfl, hq⟩ := hq
     replace hS : SH M X w [Ent.own 78 tyToken ([(gi v_ v11).Token] : List TToken) g18, Ent.own 78 tyToken v9 g10, Ent.im tyValue v_ g_v_] _ := hS.join [] [0, 1] rfl rfl hq
     clear hq
     obtain ⟨ho22, hm⟩ := chkE hm
     obtain ⟨q23, hq23, hm⟩ := letE hm
     have hd := hS.hand [1, 0] [2] rfl rfl
     refine m_stp [19, 0, 4] [(0, [], .slice g_v_.a v_.length g_v_.c), (4, [], .int .i64 v11)] H21 rfl rfl rfl rfl (o_app2 (T := tyToken) (zv := .agg ⟨[.int .u8 0, .string ⟨⟨[]⟩⟩, .int .i64 0, .string ⟨⟨[]⟩⟩, .bool false]⟩) (g1 := g10) (g2 := g18) (l1 := v9) (l2 := ([(gi v_ v11).Token] : List TToken)) q23 hq23.symm H21 hd rfl rfl rfl rfl rfl rfl rfl (by kernel_rfl) (by kernel_rfl) rfl rfl ho22) (fun _ => rfl) fun _ wd24 v H25 hq => ?_
     clear H21 hd
     obtain ⟨g26, rfl, hq⟩ := hq
     replace hS : SH M X w [Ent.own 78 tyToken q23 g26, Ent.own 78 tyToken ([(gi v_ v11).Token] : List TToken) g18, Ent.im tyValue v_ g_v_] _ := hS.join [1, 0] [2] rfl rfl hq
     clear hq
     refine wl_batch 8 9 [] [0, 3, 4] [(0, [], .slice g_v_.a v_.length g_v_.c), (3, [], .slice g26.a q23.length g26.c), (4, [], .int .i64 v11)] [] H25 (by decide) (by kernel_rfl) trivial fun _ wd27 H28 hb => ?_
     clear H25
     replace hS := hS.below hb
     clear hb
     refine wl_end rfl ?_
     replace hS : SH M X w [Ent.own 78 tyToken q23 g26, Ent.im tyValue v_ g_v_] _ := hS.sel [0, 2] rfl
     refine s_reg [(.int .u8 ((gi v_ v11).Token.Kind)), (.int .u8 (r04_Closer ((gi v_ v11).Token.Kind)))] [0, 3, 4, 5] [(0, [], .slice g_v_.a v_.length g_v_.c), (3, [], .slice g26.a q23.length g26.c), (4, [], .int .i64 v11), (5, [], .int .u8 (r04_Closer ((gi v_ v11).Token.Kind)))] [fun _ => oka g_v_.a ∧ 0 ≤ v11 ∧ v11 < ln v_, fun wz => V.at1 ⟨ab g_v_.a, ao g_v_.a + (v11).toNat * 6, none⟩ (.int .u8 ((gi v_ v11).Token.Kind)) wz, fun wz => RetB Tryd.prog 54 ⟨[.int .u8 ((gi v_ v11).Token.Kind)]⟩ (.int .u8 (r04_Closer ((gi v_ v11).Token.Kind))) wz] H28 (by kernel_rfl) ⟨((hS.im 1 rfl).oki ho15), ((hS.im 1 rfl).at1 ho15 0 rfl), ((r04_Closer_ok _).b), trivial⟩ fun _ wd29 H30 hb => ?_
     clear H28
     replace hS := hS.below hb
     clear hb
     obtain ⟨x31, hx31, hm⟩ := letE hm
     refine s_reg [] [0, 3, 4, 5, 28] [(0, [], .slice g_v_.a v_.length g_v_.c), (3, [], .slice g26.a q23.length g26.c), (4, [], .int .i64 v11), (5, [], .int .u8 (r04_Closer ((gi v_ v11).Token.Kind))), (28, [], .bool x31)] [] H30 (by subst hx31; kernel_rfl) trivial fun _ wd32 H33 hb => ?_
     clear H30
     replace hS := hS.below hb
     clear hb
     refine w_if H33 rfl (fun hc => ?_) (fun hc => ?c62)
     case c62 =>
      replace hm := bF hc hm
      refine w_skip ?_
      obtain rfl := someE hm
      exact ⟨g26, FrG.keep (ks := [0, 4, 3]) H33 (by kernel_rfl), hS⟩
     replace hm := bT hc hm
     refine w_seq ?_
     refine wl_start ?_
     refine wl_batch 0 6 [(.slice (g_v_.s (v11).toNat 0).a (((gi v_ v11).List_).length) (g_v_.s (v11).toNat 0).c)] [0, 4, 5, 29, 34] [(0, [], .slice g_v_.a v_.length g_v_.c), (4, [], .int .i64 v11), (5, [], .int .u8 (r04_Closer ((gi v_ v11).Token.Kind))), (29, [], .slice g26.a q23.length g26.c), (34, [], .slice (g_v_.s (v11).toNat 0).a (((gi v_ v11).List_).length) (g_v_.s (v11).toNat 0).c)] [fun _ => oka g_v_.a ∧ 0 ≤ v11 ∧ v11 < ln v_, fun wz => V.at1 ⟨ab g_v_.a, ao g_v_.a + (v11).toNat * 6 + 5, none⟩ (.slice (g_v_.s (v11).toNat 0).a (((gi v_ v11).List_).length) (g_v_.s (v11).toNat 0).c) wz] H33 (by decide) (by kernel_rfl) ⟨((hS.im 1 rfl).oki ho15), ((hS.im 1 rfl).at1 ho15 5 rfl), trivial⟩ fun _ wd34 H35 hb => ?_
     clear H33
     replace hS := hS.below hb
     clear hb
     replace hS : SH M X w [Ent.im tyValue ((gi v_ v11).List_) (g_v_.s (v11).toNat 0), Ent.own 78 tyToken q23 g26, Ent.im tyValue v_ g_v_] _ := hS.addIm (tyValue_i0 ((hS.im 1 rfl).el ho15))
     obtain ⟨y37, hy37, hm⟩ := bindE hm
     have hd := hS.hand [0] [0, 1, 2] rfl rfl
     refine m_stp [35, 0, 4, 5, 29] [(0, [], .slice g_v_.a v_.length g_v_.c), (4, [], .int .i64 v11), (5, [], .int .u8 (r04_Closer ((gi v_ v11).Token.Kind))), (29, [], .slice g26.a q23.length g26.c)] H35 rfl rfl rfl rfl (o_callx H35 rfl rfl (⟨Tryd.call35 _, ih ((g_v_.s (v11).toNat 0)) _ _ _ hy37 _ hd⟩ : DoesX _ _ _ _ _)) (fun _ => rfl) fun _ wd40 v H41 hq => ?_
     clear H35 hd
     obtain ⟨g38, rfl, hq⟩ := hq
     replace hS : SH M X w [Ent.own 78 tyToken y37 g38, Ent.im tyValue ((gi v_ v11).List_) (g_v_.s (v11).toNat 0), Ent.own 78 tyToken q23 g26, Ent.im tyValue v_ g_v_] _ := hS.join [0] [0, 1, 2] rfl rfl hq
     clear hq
     obtain ⟨ho42, hm⟩ := chkE hm
     obtain ⟨q43, hq43, hm⟩ := letE hm
     have hd := hS.hand [2, 0] [1, 3] rfl rfl
     refine m_stp [36, 0, 4, 5] [(0, [], .slice g_v_.a v_.length g_v_.c), (4, [], .int .i64 v11), (5, [], .int .u8 (r04_Closer ((gi v_ v11).Token.Kind)))] H41 rfl rfl rfl rfl (o_app2 (T := tyToken) (zv := .agg ⟨[.int .u8 0, .string ⟨⟨[]⟩⟩, .int .i64 0, .string ⟨⟨[]⟩⟩, .bool false]⟩) (g1 := g26) (g2 := g38) (l1 := q23) (l2 := y37) q43 hq43.symm H41 hd rfl rfl rfl rfl rfl rfl rfl (by kernel_rfl) (by kernel_rfl) rfl rfl ho42) (fun _ => rfl) fun _ wd44 v H45 hq => ?_
     clear H41 hd
     obtain ⟨g46, rfl, hq⟩ := hq
     replace hS : SH M X w [Ent.own 78 tyToken q43 g46, Ent.own 78 tyToken y37 g38, Ent.im tyValue ((gi v_ v11).List_) (g_v_.s (v11).toNat 0), Ent.im tyValue v_ g_v_] _ := hS.join [2, 0] [1, 3] rfl rfl hq
     clear hq
     refine wl_batch 8 9 [] [0, 3, 4, 5] [(0, [], .slice g_v_.a v_.length g_v_.c), (3, [], .slice g46.a q43.length g46.c), (4, [], .int .i64 v11), (5, [], .int .u8 (r04_Closer ((gi v_ v11).Token.Kind)))] [] H45 (by decide) (by kernel_rfl) trivial fun _ wd47 H48 hb => ?_
     clear H45
     replace hS := hS.below hb
     clear hb
     refine wl_end rfl ?_
     replace hS : SH M X w [Ent.own 78 tyToken q43 g46, Ent.im tyValue v_ g_v_] _ := hS.sel [0, 3] rfl
     refine wl_start ?_
     refine wl_batch 0 3 [] [0, 4, 37, 39] [(0, [], .slice g_v_.a v_.length g_v_.c), (4, [], .int .i64 v11), (37, [], .slice g46.a q43.length g46.c), (39, [], .agg ⟨[.int .u8 (r04_Closer ((gi v_ v11).Token.Kind)), .string ⟨⟨[]⟩⟩, .int .i64 0, .string ⟨⟨[]⟩⟩, .bool false]⟩)] [] H48 (by decide) (by kernel_rfl) trivial fun _ wd49 H50 hb => ?_
     clear H48
     replace hS := hS.below hb
     clear hb
     have hd := hS.hand [] [0, 1] rfl rfl
     refine m_stp [40, 0, 4, 37] [(0, [], .slice g_v_.a v_.length g_v_.c), (4, [], .int .i64 v11), (37, [], .slice g46.a q43.length g46.c)] H50 rfl rfl rfl rfl (o_lit (T := tyToken) (E := 78) (zv := .agg ⟨[.int .u8 0, .string ⟨⟨[]⟩⟩, .int .i64 0, .string ⟨⟨[]⟩⟩, .bool false]⟩) [.int .u8 (r04_Closer ((gi v_ v11).Token.Kind)), .string ⟨⟨[]⟩⟩, .int .i64 0, .string ⟨⟨[]⟩⟩, .bool false] ([(TToken.mk (r04_Closer ((gi v_ v11).Token.Kind)) [] 0 [] false)] : List TToken) [gL []] _ H50 hd rfl (by kernel_rfl) (by kernel_rfl) (by kernel_rfl) (by kernel_rfl) (by kernel_rfl) (by kernel_rfl) (by kernel_rfl) rfl (InnL.cons trivial InnL.nil)) (fun _ => rfl) fun _ wd53 v H54 hq => ?_
     clear H50 hd
     obtain ⟨g51, rfl, hq⟩ := hq
     replace hS : SH M X w [Ent.own 78 tyToken ([(TToken.mk (r04_Closer ((gi v_ v11).Token.Kind)) [] 0 [] false)] : List TToken) g51, Ent.own 78 tyToken q43 g46, Ent.im tyValue v_ g_v_] _ := hS.join [] [0, 1] rfl rfl hq
     clear hq
     obtain ⟨ho55, hm⟩ := chkE hm
     obtain ⟨q56, hq56, hm⟩ := letE hm
     have hd := hS.hand [1, 0] [2] rfl rfl
     refine m_stp [41, 0, 4] [(0, [], .slice g_v_.a v_.length g_v_.c), (4, [], .int .i64 v11)] H54 rfl rfl rfl rfl (o_app2 (T := tyToken) (zv := .agg ⟨[.int .u8 0, .string ⟨⟨[]⟩⟩, .int .i64 0, .string ⟨⟨[]⟩⟩, .bool false]⟩) (g1 := g46) (g2 := g51) (l1 := q43) (l2 := ([(TToken.mk (r04_Closer ((gi v_ v11).Token.Kind)) [] 0 [] false)] : List TToken)) q56 hq56.symm H54 hd rfl rfl rfl rfl rfl rfl rfl (by kernel_rfl) (by kernel_rfl) rfl rfl ho55) (fun _ => rfl) fun _ wd57 v H58 hq => ?_
     clear H54 hd
     obtain ⟨g59, rfl, hq⟩ := hq
     replace hS : SH M X w [Ent.own 78 tyToken q56 g59, Ent.own 78 tyToken ([(TToken.mk (r04_Closer ((gi v_ v11).Token.Kind)) [] 0 [] false)] : List TToken) g51, Ent.im tyValue v_ g_v_] _ := hS.join [1, 0] [2] rfl rfl hq
     clear hq
     refine wl_batch 5 6 [] [0, 3, 4] [(0, [], .slice g_v_.a v_.length g_v_.c), (3, [], .slice g59.a q56.length g59.c), (4, [], .int .i64 v11)] [] H58 (by decide) (by kernel_rfl) trivial fun _ wd60 H61 hb => ?_
     clear H58
     replace hS := hS.below hb
     clear hb
     refine wl_end rfl ?_
     replace hS : SH M X w [Ent.own 78 tyToken q56 g59, Ent.im tyValue v_ g_v_] _ := hS.sel [0, 2] rfl
     obtain rfl := someE hm
     exact ⟨g59, FrG.keep (ks := [0, 4, 3]) H61 (by kernel_rfl), hS⟩
    ·rintro _ wd66 ⟨g63, H, hS⟩
     refine w_reg [] [0, 3, 4] [(0, [], .slice g_v_.a v_.length g_v_.c), (3, [], .slice g63.a z14.length g63.c), (4, [], .int .i64 (w64 (v11 + 1)))] [] H (by kernel_rfl) trivial fun _ wd64 H65 hb => ?_
     clear H
     replace hS := hS.below hb
     clear hb
     exact ⟨_, Nat.lt_succ_self _, z14, w64 (v11 + 1), g63, hm, FrG.keep (ks := [0, 3, 4]) H65 (by kernel_rfl), hS⟩
  ·rintro _ wd73 ⟨g69, H, hS⟩
   replace hS : SH M X w [Ent.own 78 tyToken z5 g69] _ := hS.sel [0] rfl
   refine s_reg [] [2] [(2, [], .slice g69.a z5.length g69.c)] [] H (by kernel_rfl) trivial fun _ wd71 H72 hb => ?_
   clear H
   replace hS := hS.below hb
   clear hb
   refine w_ret ?_
   obtain rfl := someE hm
   exact retR1 H72 rfl rfl ⟨_, rfl, g69, rfl, (hS.sel [0] rfl)⟩
def r04_Tokens (m : Nat) (v_ : List TValue) : Option (List TToken) := r04_Tokens_r m  m v_
theorem r04_Tokens_ok {g_v_ : Gh} (m : Nat) (v_ : List TValue) (r : List TToken) (hm : r04_Tokens m v_ = some r) (M : Av) (w : World) (hS : S0 M [Ent.im tyValue v_ g_v_] w) : DoesX Tryd.prog 35 ⟨[.slice g_v_.a v_.length g_v_.c]⟩ w (fun v w' => ∃ (g901 : Gh), v = .slice g901.a r.length g901.c ∧ SH M (fpl [Ent.im tyValue v_ g_v_]) w [Ent.own 78 tyToken r g901] w') := ⟨Tryd.call35 _, r04_Tokens_w m   m g_v_ M v_ r hm w hS⟩

def r04_Parse (m : Nat) (l_ : List TToken) : Option ((List TValue) × Int) :=
  cond (decide (1500 < (ln l_))) (
  some (([] : List TValue), 4)) (
  Option.bind (r04_Parsed m l_) fun y10 =>
  cond (!y10.2) (
  some (([] : List TValue), 20)) (
  Option.bind (r04_Tokens m y10.1) fun y24 =>
  cond (decide (1500 < (ln y24))) (
  some (([] : List TValue), 4)) (
  some (y10.1, 0))))
theorem r04_Parse_w {g_l_ : Gh} (M : Av) (m : Nat) (l_ : List TToken) (r : (List TValue) × Int) (hm : r04_Parse m l_ = some r) (w : World) (hS : S0 M [Ent.im tyToken l_ g_l_] w) : Calls Tryd.prog 21 ⟨[.slice g_l_.a l_.length g_l_.c]⟩ w (fun e w' => ∃ v, e = .returned v ∧ ∃ (g901 : Gh), v = .tuple ⟨[.slice g901.a r.1.length g901.c, .int .i64 r.2]⟩ ∧ SH M (fpl [Ent.im tyToken l_ g_l_]) w [Ent.im tyValue r.1 g901] w') := by
 rw [r04_Parse] at hm
 have hS0 : SH M (fpl [Ent.im tyToken l_ g_l_]) w [Ent.im tyToken l_ g_l_] w := hS
 generalize hX : fpl [Ent.im tyToken l_ g_l_] = X at hS0 ⊢
 clear hS hX
 have hS := hS0
 clear hS0
 refine calls_entryP Tryd.func21 rfl Tryd.ntmps21 rfl fun _ H => ?_
 refine s_reg [] [0] [(0, [], .slice g_l_.a l_.length g_l_.c)] [] H (by kernel_rfl) trivial fun _ wd1 H2 hb => ?_
 clear H
 replace hS := hS.below hb
 clear hb
 refine w_seq ?_
 refine s_reg [] [0, 8] [(0, [], .slice g_l_.a l_.length g_l_.c), (8, [], .bool (decide (1500 < (ln l_))))] [] H2 (by kernel_rfl) trivial fun _ wd3 H4 hb => ?_
 clear H2
 replace hS := hS.below hb
 clear hb
 refine w_if H4 rfl (fun hc => ?c38) (fun hc => ?_)
 case c38 =>
  replace hm := bT hc hm
  refine s_reg [] [2, 3] [(2, [], .slice none 0 0), (3, [], .int .i64 4)] [] H4 (by kernel_rfl) trivial fun _ wd5 H6 hb => ?_
  clear H4
  replace hS := hS.below hb
  clear hb
  replace hS : SH M X w [] _ := hS.sel [] rfl
  refine w_ret ?_
  obtain rfl := someE hm
  replace hS : SH M X w [Ent.own 80 tyValue ([] : List TValue) (.nil)] _ := hS.addNil 80 tyValue
  replace hS : SH M X w [Ent.im tyValue ([] : List TValue) (.nil)] _ := SH.frz1 (hS.sel [0] rfl)
  exact retR2 H6 rfl rfl rfl ⟨_, rfl, Gh.nil, rfl, (hS.sel [0] rfl)⟩
 replace hm := bF hc hm
 refine w_skip ?_
 refine w_seq ?_
 refine wl_start ?_
 refine wl_batch 0 1 [] [10] [(10, [], .slice g_l_.a l_.length g_l_.c)] [] H4 (by decide) (by kernel_rfl) trivial fun _ wd8 H9 hb => ?_
 clear H4
 replace hS := hS.below hb
 clear hb
 obtain ⟨y10, hy10, hm⟩ := bindE hm
 have hd := hS.hand [0] [0] rfl rfl
 refine m_stp [11] [] H9 rfl rfl rfl rfl (o_callx H9 rfl rfl (r04_Parsed_ok (g_l_ := g_l_) m _ _ hy10 _ _ hd)) (fun _ => rfl) fun _ wd13 v H14 hq => ?_
 clear H9 hd
 obtain ⟨g11, rfl, hq⟩ := hq
 replace hS : SH M X w [Ent.own 80 tyValue y10.1 g11, Ent.im tyToken l_ g_l_] _ := hS.join [0] [0] rfl rfl hq
 clear hq
 refine wl_batch 2 7 [] [4, 5] [(4, [], .slice g11.a y10.1.length g11.c), (5, [], .bool y10.2)] [] H14 (by decide) (by kernel_rfl) trivial fun _ wd15 H16 hb => ?_
 clear H14
 replace hS := hS.below hb
 clear hb
 refine wl_end rfl ?_
 replace hS : SH M X w [Ent.own 80 tyValue y10.1 g11] _ := hS.sel [0] rfl
 refine w_seq ?_
 refine s_reg [] [4, 15] [(4, [], .slice g11.a y10.1.length g11.c), (15, [], .bool (!y10.2))] [] H16 (by kernel_rfl) trivial fun _ wd17 H18 hb => ?_
 clear H16
 replace hS := hS.below hb
 clear hb
 refine w_if H18 rfl (fun hc => ?c37) (fun hc => ?_)
 case c37 =>
  replace hm := bT hc hm
  refine s_reg [] [2, 3] [(2, [], .slice none 0 0), (3, [], .int .i64 20)] [] H18 (by kernel_rfl) trivial fun _ wd19 H20 hb => ?_
  clear H18
  replace hS := hS.below hb
  clear hb
  replace hS : SH M X w [] _ := hS.sel [] rfl
  refine w_ret ?_
  obtain rfl := someE hm
  replace hS : SH M X w [Ent.own 80 tyValue ([] : List TValue) (.nil)] _ := hS.addNil 80 tyValue
  replace hS : SH M X w [Ent.im tyValue ([] : List TValue) (.nil)] _ := SH.frz1 (hS.sel [0] rfl)
  exact retR2 H20 rfl rfl rfl ⟨_, rfl, Gh.nil, rfl, (hS.sel [0] rfl)⟩
 replace hm := bF hc hm
 refine w_skip ?_
 refine w_seq ?_
 refine w_seq ?_
 refine wl_start ?_
 refine wl_batch 0 1 [] [4, 16] [(4, [], .slice g11.a y10.1.length g11.c), (16, [], .slice g11.a y10.1.length g11.c)] [] H18 (by decide) (by kernel_rfl) trivial fun _ wd22 H23 hb => ?_
 clear H18
 replace hS := hS.below hb
 clear hb
 replace hS : SH M X w [Ent.im tyValue y10.1 g11] _ := SH.frz1 (hS.sel [0] rfl)
 obtain ⟨y24, hy24, hm⟩ := bindE hm
 have hd := hS.hand [0] [0] rfl rfl
 refine m_stp [17, 4] [(4, [], .slice g11.a y10.1.length g11.c)] H23 rfl rfl rfl rfl (o_callx H23 rfl rfl (r04_Tokens_ok (g_v_ := g11) m _ _ hy24 _ _ hd)) (fun _ => rfl) fun _ wd27 v H28 hq => ?_
 clear H23 hd
 obtain ⟨g25, rfl, hq⟩ := hq
 replace hS : SH M X w [Ent.own 78 tyToken y24 g25, Ent.im tyValue y10.1 g11] _ := hS.join [0] [0] rfl rfl hq
 clear hq
 refine wl_batch 2 4 [] [4, 19] [(4, [], .slice g11.a y10.1.length g11.c), (19, [], .bool (decide (1500 < (ln y24))))] [] H28 (by decide) (by kernel_rfl) trivial fun _ wd29 H30 hb => ?_
 clear H28
 replace hS := hS.below hb
 clear hb
 refine wl_end rfl ?_
 replace hS : SH M X w [Ent.im tyValue y10.1 g11] _ := hS.sel [1] rfl
 refine w_if H30 rfl (fun hc => ?_) (fun hc => ?c36)
 case c36 =>
  replace hm := bF hc hm
  refine w_skip ?_
  refine s_reg [] [2, 3] [(2, [], .slice g11.a y10.1.length g11.c), (3, [], .int .i64 0)] [] H30 (by kernel_rfl) trivial fun _ wd34 H35 hb => ?_
  clear H30
  replace hS := hS.below hb
  clear hb
  refine w_ret ?_
  obtain rfl := someE hm
  exact retR2 H35 rfl rfl rfl ⟨_, rfl, g11, rfl, (hS.sel [0] rfl)⟩
 replace hm := bT hc hm
 refine s_reg [] [2, 3] [(2, [], .slice none 0 0), (3, [], .int .i64 4)] [] H30 (by kernel_rfl) trivial fun _ wd31 H32 hb => ?_
 clear H30
 replace hS := hS.below hb
 clear hb
 replace hS : SH M X w [] _ := hS.sel [] rfl
 refine w_ret ?_
 obtain rfl := someE hm
 replace hS : SH M X w [Ent.own 80 tyValue ([] : List TValue) (.nil)] _ := hS.addNil 80 tyValue
 replace hS : SH M X w [Ent.im tyValue ([] : List TValue) (.nil)] _ := SH.frz1 (hS.sel [0] rfl)
 exact retR2 H32 rfl rfl rfl ⟨_, rfl, Gh.nil, rfl, (hS.sel [0] rfl)⟩
theorem r04_Parse_ok {g_l_ : Gh} (m : Nat) (l_ : List TToken) (r : (List TValue) × Int) (hm : r04_Parse m l_ = some r) (M : Av) (w : World) (hS : S0 M [Ent.im tyToken l_ g_l_] w) : DoesX Tryd.prog 21 ⟨[.slice g_l_.a l_.length g_l_.c]⟩ w (fun v w' => ∃ (g901 : Gh), v = .tuple ⟨[.slice g901.a r.1.length g901.c, .int .i64 r.2]⟩ ∧ SH M (fpl [Ent.im tyToken l_ g_l_]) w [Ent.im tyValue r.1 g901] w') := ⟨Tryd.call21 _, r04_Parse_w M m   l_ r hm w hS⟩

def r04_Of (m : Nat) (s : Str) : Option (List TValue) :=
  Option.bind (r02_Tokens m s) fun y5 =>
  Option.bind (r04_Parse m y5.1) fun y14 =>
  some y14.1
theorem r04_Of_w  (M : Av) (m : Nat) (s : Str) (r : List TValue) (hm : r04_Of m s = some r) (w : World) (hS : S0 M [] w) : Calls Tryd.prog 12 ⟨[.string ⟨⟨s⟩⟩]⟩ w (fun e w' => ∃ v, e = .returned v ∧ ∃ (g901 : Gh), v = .slice g901.a r.length g901.c ∧ SH M (fpl []) w [Ent.im tyValue r g901] w') := by
 rw [r04_Of] at hm
 have hS0 : SH M (fpl []) w [] w := hS
 generalize hX : fpl [] = X at hS0 ⊢
 clear hS hX
 have hS := hS0
 clear hS0
 refine calls_entryP Tryd.func12 rfl Tryd.ntmps12 rfl fun _ H => ?_
 refine s_reg [] [0] [(0, [], .string ⟨⟨s⟩⟩)] [] H (by kernel_rfl) trivial fun _ wd1 H2 hb => ?_
 clear H
 replace hS := hS.below hb
 clear hb
 refine w_seq ?_
 refine wl_start ?_
 refine wl_batch 0 1 [] [8] [(8, [], .string ⟨⟨s⟩⟩)] [] H2 (by decide) (by kernel_rfl) trivial fun _ wd3 H4 hb => ?_
 clear H2
 replace hS := hS.below hb
 clear hb
 obtain ⟨y5, hy5, hm⟩ := bindE hm
 have hd := hS.hand [] [] rfl rfl
 refine m_stp [9] [] H4 rfl rfl rfl rfl (o_callx H4 rfl rfl (r02_Tokens_ok m _ _ hy5 _ _ hd)) (fun _ => rfl) fun _ wd8 v H9 hq => ?_
 clear H4 hd
 obtain ⟨g6, rfl, hq⟩ := hq
 replace hS : SH M X w [Ent.own 78 tyToken y5.1 g6] _ := hS.join [] [] rfl rfl hq
 clear hq
 refine wl_batch 2 7 [] [3] [(3, [], .slice g6.a y5.1.length g6.c)] [] H9 (by decide) (by kernel_rfl) trivial fun _ wd10 H11 hb => ?_
 clear H9
 replace hS := hS.below hb
 clear hb
 refine wl_end rfl ?_
 refine w_seq ?_
 refine wl_start ?_
 refine wl_batch 0 1 [] [13] [(13, [], .slice g6.a y5.1.length g6.c)] [] H11 (by decide) (by kernel_rfl) trivial fun _ wd12 H13 hb => ?_
 clear H11
 replace hS := hS.below hb
 clear hb
 replace hS : SH M X w [Ent.im tyToken y5.1 g6] _ := SH.frz1 (hS.sel [0] rfl)
 obtain ⟨y14, hy14, hm⟩ := bindE hm
 have hd := hS.hand [0] [0] rfl rfl
 refine m_stp [14] [] H13 rfl rfl rfl rfl (o_callx H13 rfl rfl (r04_Parse_ok (g_l_ := g6) m _ _ hy14 _ _ hd)) (fun _ => rfl) fun _ wd17 v H18 hq => ?_
 clear H13 hd
 obtain ⟨g15, rfl, hq⟩ := hq
 replace hS : SH M X w [Ent.im tyValue y14.1 g15, Ent.im tyToken y5.1 g6] _ := hS.join [0] [0] rfl rfl hq
 clear hq
 refine wl_batch 2 7 [] [5] [(5, [], .slice g15.a y14.1.length g15.c)] [] H18 (by decide) (by kernel_rfl) trivial fun _ wd19 H20 hb => ?_
 clear H18
 replace hS := hS.below hb
 clear hb
 refine wl_end rfl ?_
 replace hS : SH M X w [Ent.im tyValue y14.1 g15] _ := hS.sel [0] rfl
 refine s_reg [] [2] [(2, [], .slice g15.a y14.1.length g15.c)] [] H20 (by kernel_rfl) trivial fun _ wd21 H22 hb => ?_
 clear H20
 replace hS := hS.below hb
 clear hb
 refine w_ret ?_
 obtain rfl := someE hm
 exact retR1 H22 rfl rfl ⟨_, rfl, g15, rfl, (hS.sel [0] rfl)⟩
theorem r04_Of_ok  (m : Nat) (s : Str) (r : List TValue) (hm : r04_Of m s = some r) (M : Av) (w : World) (hS : S0 M [] w) : DoesX Tryd.prog 12 ⟨[.string ⟨⟨s⟩⟩]⟩ w (fun v w' => ∃ (g901 : Gh), v = .slice g901.a r.length g901.c ∧ SH M (fpl []) w [Ent.im tyValue r g901] w') := ⟨Tryd.call12 _, r04_Of_w M m   s r hm w hS⟩

structure TLong where
  Name : Str
  Value : List TValue
  Whole : Str
instance : Inhabited TLong := ⟨⟨default, default, default⟩⟩
def tyLong : Ty TLong where
  z := 3
  enc := fun x g => [.string ⟨⟨x.Name⟩⟩, .slice (g 0).a x.Value.length (g 0).c, .string ⟨⟨x.Whole⟩⟩]
  inn := fun M w x g => SlG tyValue M w x.Value (g 0) ∧ True
  len := fun _ _ => rfl
  one := fun _ _ => rfl
  kp := fun h k hX => ⟨h.1.kp k hX, trivial⟩
  anti := fun h hM => ⟨h.1.anti hM, trivial⟩
  fresh := fun h => ⟨h.1.fresh, trivial⟩
theorem tyLong_i0 {M : Av} {w : World} {x : TLong} {g : Nat → Gh} (h : tyLong.inn M w x g) : SlG tyValue M w x.Value (g 0) := (show SlG tyValue M w x.Value (g 0) ∧ True from h).1
theorem tyLong_mk {M : Av} {w : World} {x : TLong} {g : Nat → Gh} (h0 : SlG tyValue M w x.Value (g 0)) : tyLong.inn M w x g := show SlG tyValue M w x.Value (g 0) ∧ True from ⟨h0, trivial⟩
structure TWeight where
  e0 : Int
  e1 : Int
  e2 : Int
instance : Inhabited TWeight := ⟨⟨default, default, default⟩⟩
def tyWeight : Ty TWeight where
  z := 3
  enc := fun x g => [.int .i64 x.e0, .int .i64 x.e1, .int .i64 x.e2]
  inn := fun _ _ _ _ => True
  len := fun _ _ => rfl
  one := fun _ _ => rfl
  kp := fun _ _ _ => trivial
  anti := fun _ _ => trivial
  fresh := fun _ => trivial
structure TDeclared where
  Long : TLong
  Important : Bool
  Origin : Int
  Attached : Bool
  Layer : Int
  Weight : TWeight
  Order : Int
instance : Inhabited TDeclared := ⟨⟨default, default, default, default, default, default, default⟩⟩
def tyDeclared : Ty TDeclared where
  z := 11
  enc := fun x g => [.string ⟨⟨x.Long.Name⟩⟩, .slice (g 0).a x.Long.Value.length (g 0).c, .string ⟨⟨x.Long.Whole⟩⟩, .bool x.Important, .int .u8 x.Origin, .bool x.Attached, .int .i64 x.Layer, .int .i64 x.Weight.e0, .int .i64 x.Weight.e1, .int .i64 x.Weight.e2, .int .i64 x.Order]
  inn := fun M w x g => SlG tyValue M w x.Long.Value (g 0) ∧ True
  len := fun _ _ => rfl
  one := fun _ _ => rfl
  kp := fun h k hX => ⟨h.1.kp k hX, trivial⟩
  anti := fun h hM => ⟨h.1.anti hM, trivial⟩
  fresh := fun h => ⟨h.1.fresh, trivial⟩
theorem tyDeclared_i0 {M : Av} {w : World} {x : TDeclared} {g : Nat → Gh} (h : tyDeclared.inn M w x g) : SlG tyValue M w x.Long.Value (g 0) := (show SlG tyValue M w x.Long.Value (g 0) ∧ True from h).1
theorem tyDeclared_mk {M : Av} {w : World} {x : TDeclared} {g : Nat → Gh} (h0 : SlG tyValue M w x.Long.Value (g 0)) : tyDeclared.inn M w x g := show SlG tyValue M w x.Long.Value (g 0) ∧ True from ⟨h0, trivial⟩
def law31_of (m : Nat) (origin : Int) (name_ : Str) (s : Str) : Option (TDeclared) :=
  Option.bind (r04_Of m s) fun y6 =>
  some (TDeclared.mk (TLong.mk name_ y6 []) false origin false 0 (TWeight.mk 0 0 0) 0)
theorem law31_of_w  (M : Av) (m : Nat) (origin : Int) (name_ : Str) (s : Str) (r : TDeclared) (hm : law31_of m origin name_ s = some r) (w : World) (hS : S0 M [] w) : Calls Tryd.prog 6 ⟨[.int .u8 origin, .string ⟨⟨name_⟩⟩, .string ⟨⟨s⟩⟩]⟩ w (fun e w' => ∃ v, e = .returned v ∧ ∃ (g901 : Gh), v = .agg ⟨[.string ⟨⟨r.Long.Name⟩⟩, .slice g901.a r.Long.Value.length g901.c, .string ⟨⟨r.Long.Whole⟩⟩, .bool r.Important, .int .u8 r.Origin, .bool r.Attached, .int .i64 r.Layer, .int .i64 r.Weight.e0, .int .i64 r.Weight.e1, .int .i64 r.Weight.e2, .int .i64 r.Order]⟩ ∧ SH M (fpl []) w [Ent.im tyValue r.Long.Value g901] w') := by
 rw [law31_of] at hm
 have hS0 : SH M (fpl []) w [] w := hS
 generalize hX : fpl [] = X at hS0 ⊢
 clear hS hX
 have hS := hS0
 clear hS0
 refine calls_entryP Tryd.func6 rfl Tryd.ntmps6 rfl fun _ H => ?_
 refine w_seq ?_
 refine wl_start ?_
 have hd := hS.hand [] [] rfl rfl
 refine m_stp [6, 0, 1, 2] [(0, [], .int .u8 origin), (1, [], .string ⟨⟨name_⟩⟩), (2, [], .string ⟨⟨s⟩⟩)] H rfl rfl rfl rfl (o_alloc [.string ⟨⟨[]⟩⟩, .slice none 0 0, .string ⟨⟨[]⟩⟩, .bool false, .int .u8 0, .bool false, .int .i64 0, .int .i64 0, .int .i64 0, .int .i64 0, .int .i64 0] (z := .agg ⟨[.string ⟨⟨[]⟩⟩, .slice none 0 0, .string ⟨⟨[]⟩⟩, .bool false, .int .u8 0, .bool false, .int .i64 0, .int .i64 0, .int .i64 0, .int .i64 0, .int .i64 0]⟩) hd (by kernel_rfl) rfl) (fun _ => rfl) fun _ wd2 v H3 hq => ?_
 clear H hd
 obtain ⟨b1, rfl, hq⟩ := hq
 replace hS : SH M X w [Ent.blk b1 [.string ⟨⟨[]⟩⟩, .slice none 0 0, .string ⟨⟨[]⟩⟩, .bool false, .int .u8 0, .bool false, .int .i64 0, .int .i64 0, .int .i64 0, .int .i64 0, .int .i64 0]] _ := hS.join [] [] rfl rfl hq
 clear hq
 refine wl_end rfl ?_
 refine w_seq ?_
 refine wl_start ?_
 refine wl_batch 0 2 [] [0, 6, 7, 8] [(0, [], .int .u8 origin), (6, [], .pointer (some ⟨b1, 0, none⟩)), (7, [], .string ⟨⟨name_⟩⟩), (8, [], .string ⟨⟨s⟩⟩)] [] H3 (by decide) (by kernel_rfl) trivial fun _ wd4 H5 hb => ?_
 clear H3
 replace hS := hS.below hb
 clear hb
 obtain ⟨y6, hy6, hm⟩ := bindE hm
 have hd := hS.hand [] [0] rfl rfl
 refine m_stp [9, 0, 6, 7] [(0, [], .int .u8 origin), (6, [], .pointer (some ⟨b1, 0, none⟩)), (7, [], .string ⟨⟨name_⟩⟩)] H5 rfl rfl rfl rfl (o_callx H5 rfl rfl (r04_Of_ok m _ _ hy6 _ _ hd)) (fun _ => rfl) fun _ wd9 v H10 hq => ?_
 clear H5 hd
 obtain ⟨g7, rfl, hq⟩ := hq
 replace hS : SH M X w [Ent.im tyValue y6 g7, Ent.blk b1 [.string ⟨⟨[]⟩⟩, .slice none 0 0, .string ⟨⟨[]⟩⟩, .bool false, .int .u8 0, .bool false, .int .i64 0, .int .i64 0, .int .i64 0, .int .i64 0, .int .i64 0]] _ := hS.join [] [0] rfl rfl hq
 clear hq
 refine wl_batch 3 6 [] [6, 12] [(6, [], .pointer (some ⟨b1, 0, none⟩)), (12, [], .agg ⟨[.string ⟨⟨name_⟩⟩, .slice g7.a y6.length g7.c, .string ⟨⟨[]⟩⟩, .bool false, .int .u8 origin, .bool false, .int .i64 0, .int .i64 0, .int .i64 0, .int .i64 0, .int .i64 0]⟩)] [] H10 (by decide) (by kernel_rfl) trivial fun _ wd11 H12 hb => ?_
 clear H10
 replace hS := hS.below hb
 clear hb
 have hd := hS.hand [1] [0] rfl rfl
 refine m_stp0 [6] [(6, [], .pointer (some ⟨b1, 0, none⟩))] H12 rfl rfl rfl (o_store [.string ⟨⟨name_⟩⟩, .slice g7.a y6.length g7.c, .string ⟨⟨[]⟩⟩, .bool false, .int .u8 origin, .bool false, .int .i64 0, .int .i64 0, .int .i64 0, .int .i64 0, .int .i64 0] H12 hd rfl rfl (by kernel_rfl) rfl rfl rfl) rfl fun _ wd13 H14 hq => ?_
 clear H12 hd
 obtain ⟨_, hq⟩ := hq
 replace hS : SH M X w [Ent.blk b1 [.string ⟨⟨name_⟩⟩, .slice g7.a y6.length g7.c, .string ⟨⟨[]⟩⟩, .bool false, .int .u8 origin, .bool false, .int .i64 0, .int .i64 0, .int .i64 0, .int .i64 0, .int .i64 0], Ent.im tyValue y6 g7] _ := hS.join [1] [0] rfl rfl hq
 clear hq
 refine wl_end rfl ?_
 refine w_ret ?_
 obtain rfl := someE hm
 exact retR1 H14 rfl (oneRes_agg rfl (hS.bk 0 rfl) Tryd.underlying31 rfl (by kernel_rfl)) ⟨_, rfl, g7, rfl, (hS.sel [1] rfl)⟩
theorem law31_of_ok  (m : Nat) (origin : Int) (name_ : Str) (s : Str) (r : TDeclared) (hm : law31_of m origin name_ s = some r) (M : Av) (w : World) (hS : S0 M [] w) : DoesX Tryd.prog 6 ⟨[.int .u8 origin, .string ⟨⟨name_⟩⟩, .string ⟨⟨s⟩⟩]⟩ w (fun v w' => ∃ (g901 : Gh), v = .agg ⟨[.string ⟨⟨r.Long.Name⟩⟩, .slice g901.a r.Long.Value.length g901.c, .string ⟨⟨r.Long.Whole⟩⟩, .bool r.Important, .int .u8 r.Origin, .bool r.Attached, .int .i64 r.Layer, .int .i64 r.Weight.e0, .int .i64 r.Weight.e1, .int .i64 r.Weight.e2, .int .i64 r.Order]⟩ ∧ SH M (fpl []) w [Ent.im tyValue r.Long.Value g901] w') := ⟨Tryd.call6 _, law31_of_w M m   origin name_ s r hm w hS⟩

def law31_one (m : Nat) (s : Str) : Option (List TDeclared) :=
  Option.bind (law31_of m 3 [99, 111, 108, 111, 114] s) fun y5 =>
  Option.bind (law31_of m 3 [119, 105, 100, 116, 104] s) fun y12 =>
  some ([y5, y12] : List TDeclared)
theorem law31_one_w  (M : Av) (m : Nat) (s : Str) (r : List TDeclared) (hm : law31_one m s = some r) (w : World) (hS : S0 M [] w) : Calls Tryd.prog 5 ⟨[.string ⟨⟨s⟩⟩]⟩ w (fun e w' => ∃ v, e = .returned v ∧ ∃ (g901 : Gh), v = .slice g901.a r.length g901.c ∧ SH M (fpl []) w [Ent.own 31 tyDeclared r g901] w') := by
 rw [law31_one] at hm
 have hS0 : SH M (fpl []) w [] w := hS
 generalize hX : fpl [] = X at hS0 ⊢
 clear hS hX
 have hS := hS0
 clear hS0
 refine calls_entryP Tryd.func5 rfl Tryd.ntmps5 rfl fun _ H => ?_
 refine s_reg [] [0] [(0, [], .string ⟨⟨s⟩⟩)] [] H (by kernel_rfl) trivial fun _ wd1 H2 hb => ?_
 clear H
 replace hS := hS.below hb
 clear hb
 refine w_seq ?_
 refine wl_start ?_
 refine wl_batch 0 1 [] [0, 3] [(0, [], .string ⟨⟨s⟩⟩), (3, [], .string ⟨⟨s⟩⟩)] [] H2 (by decide) (by kernel_rfl) trivial fun _ wd3 H4 hb => ?_
 clear H2
 replace hS := hS.below hb
 clear hb
 obtain ⟨y5, hy5, hm⟩ := bindE hm
 have hd := hS.hand [] [] rfl rfl
 refine m_stp [4, 0] [(0, [], .string ⟨⟨s⟩⟩)] H4 rfl rfl rfl rfl (o_callx H4 rfl rfl (law31_of_ok m _ _ _ _ hy5 _ _ hd)) (fun _ => rfl) fun _ wd8 v H9 hq => ?_
 clear H4 hd
 obtain ⟨g6, rfl, hq⟩ := hq
 replace hS : SH M X w [Ent.im tyValue y5.Long.Value g6] _ := hS.join [] [] rfl rfl hq
 clear hq
 refine wl_batch 2 3 [] [4, 5] [(4, [], .agg ⟨[.string ⟨⟨y5.Long.Name⟩⟩, .slice g6.a y5.Long.Value.length g6.c, .string ⟨⟨y5.Long.Whole⟩⟩, .bool y5.Important, .int .u8 y5.Origin, .bool y5.Attached, .int .i64 y5.Layer, .int .i64 y5.Weight.e0, .int .i64 y5.Weight.e1, .int .i64 y5.Weight.e2, .int .i64 y5.Order]⟩), (5, [], .string ⟨⟨s⟩⟩)] [] H9 (by decide) (by kernel_rfl) trivial fun _ wd10 H11 hb => ?_
 clear H9
 replace hS := hS.below hb
 clear hb
 obtain ⟨y12, hy12, hm⟩ := bindE hm
 have hd := hS.hand [] [0] rfl rfl
 refine m_stp [6, 4] [(4, [], .agg ⟨[.string ⟨⟨y5.Long.Name⟩⟩, .slice g6.a y5.Long.Value.length g6.c, .string ⟨⟨y5.Long.Whole⟩⟩, .bool y5.Important, .int .u8 y5.Origin, .bool y5.Attached, .int .i64 y5.Layer, .int .i64 y5.Weight.e0, .int .i64 y5.Weight.e1, .int .i64 y5.Weight.e2, .int .i64 y5.Order]⟩)] H11 rfl rfl rfl rfl (o_callx H11 rfl rfl (law31_of_ok m _ _ _ _ hy12 _ _ hd)) (fun _ => rfl) fun _ wd15 v H16 hq => ?_
 clear H11 hd
 obtain ⟨g13, rfl, hq⟩ := hq
 replace hS : SH M X w [Ent.im tyValue y12.Long.Value g13, Ent.im tyValue y5.Long.Value g6] _ := hS.join [] [0] rfl rfl hq
 clear hq
 have hd := hS.hand [1, 0] [0, 1] rfl rfl
 refine m_stp [7] [] H16 rfl rfl rfl rfl (o_lit (T := tyDeclared) (E := 31) (zv := .agg ⟨[.string ⟨⟨[]⟩⟩, .slice none 0 0, .string ⟨⟨[]⟩⟩, .bool false, .int .u8 0, .bool false, .int .i64 0, .int .i64 0, .int .i64 0, .int .i64 0, .int .i64 0]⟩) [.string ⟨⟨y5.Long.Name⟩⟩, .slice g6.a y5.Long.Value.length g6.c, .string ⟨⟨y5.Long.Whole⟩⟩, .bool y5.Important, .int .u8 y5.Origin, .bool y5.Attached, .int .i64 y5.Layer, .int .i64 y5.Weight.e0, .int .i64 y5.Weight.e1, .int .i64 y5.Weight.e2, .int .i64 y5.Order, .string ⟨⟨y12.Long.Name⟩⟩, .slice g13.a y12.Long.Value.length g13.c, .string ⟨⟨y12.Long.Whole⟩⟩, .bool y12.Important, .int .u8 y12.Origin, .bool y12.Attached, .int .i64 y12.Layer, .int .i64 y12.Weight.e0, .int .i64 y12.Weight.e1, .int .i64 y12.Weight.e2, .int .i64 y12.Order] ([y5, y12] : List TDeclared) [gL [g6], gL [g13]] _ H16 hd rfl (by kernel_rfl) (by kernel_rfl) (by kernel_rfl) (by kernel_rfl) (by kernel_rfl) (by kernel_rfl) (by kernel_rfl) rfl (InnL.cons (tyDeclared_mk (hd.im 0 rfl)) (InnL.cons (tyDeclared_mk (hd.im 1 rfl)) InnL.nil))) (fun _ => rfl) fun _ wd19 v H20 hq => ?_
 clear H16 hd
 obtain ⟨g17, rfl, hq⟩ := hq
 replace hS : SH M X w [Ent.own 31 tyDeclared ([y5, y12] : List TDeclared) g17, Ent.im tyValue y12.Long.Value g13, Ent.im tyValue y5.Long.Value g6] _ := hS.join [1, 0] [0, 1] rfl rfl hq
 clear hq
 refine wl_batch 5 6 [] [2] [(2, [], .slice g17.a 2 g17.c)] [] H20 (by decide) (by kernel_rfl) trivial fun _ wd21 H22 hb => ?_
 clear H20
 replace hS := hS.below hb
 clear hb
 refine wl_end rfl ?_
 replace hS : SH M X w [Ent.own 31 tyDeclared ([y5, y12] : List TDeclared) g17] _ := hS.sel [0] rfl
 refine w_ret ?_
 obtain rfl := someE hm
 exact retR1 H22 rfl rfl ⟨_, rfl, g17, rfl, (hS.sel [0] rfl)⟩
theorem law31_one_ok  (m : Nat) (s : Str) (r : List TDeclared) (hm : law31_one m s = some r) (M : Av) (w : World) (hS : S0 M [] w) : DoesX Tryd.prog 5 ⟨[.string ⟨⟨s⟩⟩]⟩ w (fun v w' => ∃ (g901 : Gh), v = .slice g901.a r.length g901.c ∧ SH M (fpl []) w [Ent.own 31 tyDeclared r g901] w') := ⟨Tryd.call5 _, law31_one_w M m   s r hm w hS⟩

def stringslite_HasPrefix (s : Str) (prefix_ : Str) : Option (Bool) :=
  chk ((decide ((ln prefix_) ≤ (ln s))) = true → 0 ≤ (ln prefix_) ∧ (ln prefix_) ≤ ln s) <|
  lt (cond (decide ((ln prefix_) ≤ (ln s))) ((sub s 0 (ln prefix_)) == prefix_) false) fun x4 =>
  some x4
theorem stringslite_HasPrefix_w  (M : Av) (s : Str) (prefix_ : Str) (r : Bool) (hm : stringslite_HasPrefix s prefix_ = some r) (w : World) (hS : S0 M [] w) : Calls Tryd.prog 59 ⟨[.string ⟨⟨s⟩⟩, .string ⟨⟨prefix_⟩⟩]⟩ w (fun e w' => ∃ v, e = .returned v ∧ v = .bool r ∧ SH M (fpl []) w [] w') := by
 rw [stringslite_HasPrefix] at hm
 have hS0 : SH M (fpl []) w [] w := hS
 generalize hX : fpl [] = X at hS0 ⊢
 clear hS hX
 have hS := hS0
 clear hS0
 refine calls_entryP Tryd.func59 rfl Tryd.ntmps59 rfl fun _ H => ?_
 refine s_reg [] [0, 1] [(0, [], .string ⟨⟨s⟩⟩), (1, [], .string ⟨⟨prefix_⟩⟩)] [] H (by kernel_rfl) trivial fun _ wd1 H2 hb => ?_
 clear H
 replace hS := hS.below hb
 clear hb
 obtain ⟨ho3, hm⟩ := chkE hm
 obtain ⟨x4, hx4, hm⟩ := letE hm
 refine s_reg [] [4] [(4, [], .bool x4)] [fun _ => ((decide ((ln prefix_) ≤ (ln s))) = true ∧ True → 0 ≤ (ln prefix_) ∧ (ln prefix_) ≤ ln s)] H2 (by subst hx4; kernel_rfl) ⟨fun hg => (ho3 hg.1), trivial⟩ fun _ wd5 H6 hb => ?_
 clear H2
 replace hS := hS.below hb
 clear hb
 refine w_ret ?_
 obtain rfl := someE hm
 exact retR1 H6 rfl rfl ⟨_, rfl, rfl, (hS.sel [] rfl)⟩
theorem stringslite_HasPrefix_ok  (s : Str) (prefix_ : Str) (r : Bool) (hm : stringslite_HasPrefix s prefix_ = some r) : Ret Tryd.prog 59 ⟨[.string ⟨⟨s⟩⟩, .string ⟨⟨prefix_⟩⟩]⟩ (.bool r) := retP_of (Tryd.call59 _) (fun w h => stringslite_HasPrefix_w F0   s prefix_ r hm w h)

def strings_HasPrefix (s : Str) (prefix_ : Str) : Option (Bool) :=
  Option.bind (stringslite_HasPrefix s prefix_) fun y3 =>
  some y3
theorem strings_HasPrefix_w  (M : Av) (s : Str) (prefix_ : Str) (r : Bool) (hm : strings_HasPrefix s prefix_ = some r) (w : World) (hS : S0 M [] w) : Calls Tryd.prog 40 ⟨[.string ⟨⟨s⟩⟩, .string ⟨⟨prefix_⟩⟩]⟩ w (fun e w' => ∃ v, e = .returned v ∧ v = .bool r ∧ SH M (fpl []) w [] w') := by
 rw [strings_HasPrefix] at hm
 have hS0 : SH M (fpl []) w [] w := hS
 generalize hX : fpl [] = X at hS0 ⊢
 clear hS hX
 have hS := hS0
 clear hS0
 refine calls_entryP Tryd.func40 rfl Tryd.ntmps40 rfl fun _ H => ?_
 refine s_reg [] [0, 1] [(0, [], .string ⟨⟨s⟩⟩), (1, [], .string ⟨⟨prefix_⟩⟩)] [] H (by kernel_rfl) trivial fun _ wd1 H2 hb => ?_
 clear H
 replace hS := hS.below hb
 clear hb
 obtain ⟨y3, hy3, hm⟩ := bindE hm
 refine s_reg [(.bool y3)] [4] [(4, [], .bool y3)] [fun wz => RetB Tryd.prog 59 ⟨[.string ⟨⟨s⟩⟩, .string ⟨⟨prefix_⟩⟩]⟩ (.bool y3) wz] H2 (by kernel_rfl) ⟨((stringslite_HasPrefix_ok _ _ _ hy3).b), trivial⟩ fun _ wd4 H5 hb => ?_
 clear H2
 replace hS := hS.below hb
 clear hb
 refine w_ret ?_
 obtain rfl := someE hm
 exact retR1 H5 rfl rfl ⟨_, rfl, rfl, (hS.sel [] rfl)⟩
theorem strings_HasPrefix_ok  (s : Str) (prefix_ : Str) (r : Bool) (hm : strings_HasPrefix s prefix_ = some r) : Ret Tryd.prog 40 ⟨[.string ⟨⟨s⟩⟩, .string ⟨⟨prefix_⟩⟩]⟩ (.bool r) := retP_of (Tryd.call40 _) (fun w h => strings_HasPrefix_w F0   s prefix_ r hm w h)

def props_Custom (name_ : Str) : Option (Bool) :=
  Option.bind (strings_HasPrefix name_ [45, 45]) fun y3 =>
  lt (cond (cond y3 (decide (2 < (ln name_))) false) (decide ((ln name_) ≤ 64)) false) fun x4 =>
  some x4
theorem props_Custom_w  (M : Av) (name_ : Str) (r : Bool) (hm : props_Custom name_ = some r) (w : World) (hS : S0 M [] w) : Calls Tryd.prog 24 ⟨[.string ⟨⟨name_⟩⟩]⟩ w (fun e w' => ∃ v, e = .returned v ∧ v = .bool r ∧ SH M (fpl []) w [] w') := by
 rw [props_Custom] at hm
 have hS0 : SH M (fpl []) w [] w := hS
 generalize hX : fpl [] = X at hS0 ⊢
 clear hS hX
 have hS := hS0
 clear hS0
 refine calls_entryP Tryd.func24 rfl Tryd.ntmps24 rfl fun _ H => ?_
 refine s_reg [] [0] [(0, [], .string ⟨⟨name_⟩⟩)] [] H (by kernel_rfl) trivial fun _ wd1 H2 hb => ?_
 clear H
 replace hS := hS.below hb
 clear hb
 obtain ⟨y3, hy3, hm⟩ := bindE hm
 obtain ⟨x4, hx4, hm⟩ := letE hm
 refine s_reg [(.bool y3)] [2] [(2, [], .bool x4)] [fun wz => RetB Tryd.prog 40 ⟨[.string ⟨⟨name_⟩⟩, .string ⟨⟨[45, 45]⟩⟩]⟩ (.bool y3) wz] H2 (by subst hx4; kernel_rfl) ⟨((strings_HasPrefix_ok _ _ _ hy3).b), trivial⟩ fun _ wd5 H6 hb => ?_
 clear H2
 replace hS := hS.below hb
 clear hb
 refine w_ret ?_
 obtain rfl := someE hm
 exact retR1 H6 rfl rfl ⟨_, rfl, rfl, (hS.sel [] rfl)⟩
theorem props_Custom_ok  (name_ : Str) (r : Bool) (hm : props_Custom name_ = some r) : Ret Tryd.prog 24 ⟨[.string ⟨⟨name_⟩⟩]⟩ (.bool r) := retP_of (Tryd.call24 _) (fun w h => props_Custom_w F0   name_ r hm w h)

structure TColor where
  Red : Int
  Green : Int
  Blue : Int
  Alpha : Int
instance : Inhabited TColor := ⟨⟨default, default, default, default⟩⟩
def tyColor : Ty TColor where
  z := 4
  enc := fun x g => [.int .u8 x.Red, .int .u8 x.Green, .int .u8 x.Blue, .int .u8 x.Alpha]
  inn := fun _ _ _ _ => True
  len := fun _ _ => rfl
  one := fun _ _ => rfl
  kp := fun _ _ _ => trivial
  anti := fun _ _ => trivial
  fresh := fun _ => trivial
structure TVal where
  Kind : Int
  Word : Str
  Num : Int
  Color : TColor
instance : Inhabited TVal := ⟨⟨default, default, default, default⟩⟩
def tyVal : Ty TVal where
  z := 7
  enc := fun x g => [.int .u8 x.Kind, .string ⟨⟨x.Word⟩⟩, .int .i64 x.Num, .int .u8 x.Color.Red, .int .u8 x.Color.Green, .int .u8 x.Color.Blue, .int .u8 x.Color.Alpha]
  inn := fun _ _ _ _ => True
  len := fun _ _ => rfl
  one := fun _ _ => rfl
  kp := fun _ _ _ => trivial
  anti := fun _ _ => trivial
  fresh := fun _ => trivial
def props_word (s : Str) : TVal :=
  (TVal.mk 1 s 0 (TColor.mk 0 0 0 0))
theorem props_word_w  (M : Av) (s : Str) (r : TVal) (hm : props_word s = r) (w : World) (hS : S0 M [] w) : Calls Tryd.prog 43 ⟨[.string ⟨⟨s⟩⟩]⟩ w (fun e w' => ∃ v, e = .returned v ∧ v = .agg ⟨[.int .u8 r.Kind, .string ⟨⟨r.Word⟩⟩, .int .i64 r.Num, .int .u8 r.Color.Red, .int .u8 r.Color.Green, .int .u8 r.Color.Blue, .int .u8 r.Color.Alpha]⟩ ∧ SH M (fpl []) w [] w') := by
 rw [props_word] at hm
 have hS0 : SH M (fpl []) w [] w := hS
 generalize hX : fpl [] = X at hS0 ⊢
 clear hS hX
 have hS := hS0
 clear hS0
 refine calls_entryP Tryd.func43 rfl Tryd.ntmps43 rfl fun _ H => ?_
 refine w_seq ?_
 refine wl_start ?_
 have hd := hS.hand [] [] rfl rfl
 refine m_stp [2, 0] [(0, [], .string ⟨⟨s⟩⟩)] H rfl rfl rfl rfl (o_alloc [.int .u8 0, .string ⟨⟨[]⟩⟩, .int .i64 0, .int .u8 0, .int .u8 0, .int .u8 0, .int .u8 0] (z := .agg ⟨[.int .u8 0, .string ⟨⟨[]⟩⟩, .int .i64 0, .int .u8 0, .int .u8 0, .int .u8 0, .int .u8 0]⟩) hd (by kernel_rfl) rfl) (fun _ => rfl) fun _ wd2 v H3 hq => ?_
 clear H hd
 obtain ⟨b1, rfl, hq⟩ := hq
 replace hS : SH M X w [Ent.blk b1 [.int .u8 0, .string ⟨⟨[]⟩⟩, .int .i64 0, .int .u8 0, .int .u8 0, .int .u8 0, .int .u8 0]] _ := hS.join [] [] rfl rfl hq
 clear hq
 refine wl_end rfl ?_
 refine w_seq ?_
 refine wl_start ?_
 refine wl_batch 0 2 [] [2, 4] [(2, [], .pointer (some ⟨b1, 0, none⟩)), (4, [], .agg ⟨[.int .u8 1, .string ⟨⟨s⟩⟩, .int .i64 0, .int .u8 0, .int .u8 0, .int .u8 0, .int .u8 0]⟩)] [] H3 (by decide) (by kernel_rfl) trivial fun _ wd4 H5 hb => ?_
 clear H3
 replace hS := hS.below hb
 clear hb
 have hd := hS.hand [0] [] rfl rfl
 refine m_stp0 [2] [(2, [], .pointer (some ⟨b1, 0, none⟩))] H5 rfl rfl rfl (o_store [.int .u8 1, .string ⟨⟨s⟩⟩, .int .i64 0, .int .u8 0, .int .u8 0, .int .u8 0, .int .u8 0] H5 hd rfl rfl (by kernel_rfl) rfl rfl rfl) rfl fun _ wd6 H7 hq => ?_
 clear H5 hd
 obtain ⟨_, hq⟩ := hq
 replace hS : SH M X w [Ent.blk b1 [.int .u8 1, .string ⟨⟨s⟩⟩, .int .i64 0, .int .u8 0, .int .u8 0, .int .u8 0, .int .u8 0]] _ := hS.join [0] [] rfl rfl hq
 clear hq
 refine wl_end rfl ?_
 refine w_ret ?_
 subst hm
 exact retR1 H7 rfl (oneRes_agg rfl (hS.bk 0 rfl) Tryd.underlying65 rfl (by kernel_rfl)) ⟨_, rfl, rfl, (hS.sel [] rfl)⟩
theorem props_word_ok  (s : Str) : Ret Tryd.prog 43 ⟨[.string ⟨⟨s⟩⟩]⟩ (.agg ⟨[.int .u8 (props_word s).Kind, .string ⟨⟨(props_word s).Word⟩⟩, .int .i64 (props_word s).Num, .int .u8 (props_word s).Color.Red, .int .u8 (props_word s).Color.Green, .int .u8 (props_word s).Color.Blue, .int .u8 (props_word s).Color.Alpha]⟩) := retP_of (Tryd.call43 _) (fun w h => props_word_w F0   s _ rfl w h)

structure TProp where
  Name : Str
  Inherited : Bool
  Initial : TVal
  Words : List Str
  Kinds : List Int
  Least : Bool
instance : Inhabited TProp := ⟨⟨default, default, default, default, default, default⟩⟩
def tyProp : Ty TProp where
  z := 12
  enc := fun x g => [.string ⟨⟨x.Name⟩⟩, .bool x.Inherited, .int .u8 x.Initial.Kind, .string ⟨⟨x.Initial.Word⟩⟩, .int .i64 x.Initial.Num, .int .u8 x.Initial.Color.Red, .int .u8 x.Initial.Color.Green, .int .u8 x.Initial.Color.Blue, .int .u8 x.Initial.Color.Alpha, .slice (g 0).a x.Words.length (g 0).c, .slice (g 1).a x.Kinds.length (g 1).c, .bool x.Least]
  inn := fun M w x g => SlG tS M w x.Words (g 0) ∧ SlG (tI .u8) M w x.Kinds (g 1) ∧ True
  len := fun _ _ => rfl
  one := fun _ _ => rfl
  kp := fun h k hX => ⟨h.1.kp k hX, h.2.1.kp k hX, trivial⟩
  anti := fun h hM => ⟨h.1.anti hM, h.2.1.anti hM, trivial⟩
  fresh := fun h => ⟨h.1.fresh, h.2.1.fresh, trivial⟩
theorem tyProp_i0 {M : Av} {w : World} {x : TProp} {g : Nat → Gh} (h : tyProp.inn M w x g) : SlG tS M w x.Words (g 0) := (show SlG tS M w x.Words (g 0) ∧ SlG (tI .u8) M w x.Kinds (g 1) ∧ True from h).1
theorem tyProp_i1 {M : Av} {w : World} {x : TProp} {g : Nat → Gh} (h : tyProp.inn M w x g) : SlG (tI .u8) M w x.Kinds (g 1) := (show SlG tS M w x.Words (g 0) ∧ SlG (tI .u8) M w x.Kinds (g 1) ∧ True from h).2.1
theorem tyProp_mk {M : Av} {w : World} {x : TProp} {g : Nat → Gh} (h0 : SlG tS M w x.Words (g 0)) (h1 : SlG (tI .u8) M w x.Kinds (g 1)) : tyProp.inn M w x g := show SlG tS M w x.Words (g 0) ∧ SlG (tI .u8) M w x.Kinds (g 1) ∧ True from ⟨h0, h1, trivial⟩
def props_color (name_ : Str) (inherited : Bool) (first : TVal) : TProp :=
  (TProp.mk name_ inherited first ([] : List Str) ([7, 8] : List Int) false)
theorem props_color_w  (M : Av) (name_ : Str) (inherited : Bool) (first : TVal) (r : TProp) (hm : props_color name_ inherited first = r) (w : World) (hS : S0 M [] w) : Calls Tryd.prog 44 ⟨[.string ⟨⟨name_⟩⟩, .bool inherited, .agg ⟨[.int .u8 first.Kind, .string ⟨⟨first.Word⟩⟩, .int .i64 first.Num, .int .u8 first.Color.Red, .int .u8 first.Color.Green, .int .u8 first.Color.Blue, .int .u8 first.Color.Alpha]⟩]⟩ w (fun e w' => ∃ v, e = .returned v ∧ ∃ (g901 : Gh) (g903 : Gh), v = .agg ⟨[.string ⟨⟨r.Name⟩⟩, .bool r.Inherited, .int .u8 r.Initial.Kind, .string ⟨⟨r.Initial.Word⟩⟩, .int .i64 r.Initial.Num, .int .u8 r.Initial.Color.Red, .int .u8 r.Initial.Color.Green, .int .u8 r.Initial.Color.Blue, .int .u8 r.Initial.Color.Alpha, .slice g901.a r.Words.length g901.c, .slice g903.a r.Kinds.length g903.c, .bool r.Least]⟩ ∧ SH M (fpl []) w [Ent.own 9 tS r.Words g901, Ent.own 5 (tI .u8) r.Kinds g903] w') := by
 rw [props_color] at hm
 have hS0 : SH M (fpl []) w [] w := hS
 generalize hX : fpl [] = X at hS0 ⊢
 clear hS hX
 have hS := hS0
 clear hS0
 refine calls_entryP Tryd.func44 rfl Tryd.ntmps44 rfl fun _ H => ?_
 refine w_seq ?_
 refine wl_start ?_
 have hd := hS.hand [] [] rfl rfl
 refine m_stp [5, 0, 1] [(0, [], .string ⟨⟨name_⟩⟩), (1, [], .bool inherited)] H rfl rfl rfl rfl (o_box [.int .u8 first.Kind, .string ⟨⟨first.Word⟩⟩, .int .i64 first.Num, .int .u8 first.Color.Red, .int .u8 first.Color.Green, .int .u8 first.Color.Blue, .int .u8 first.Color.Alpha] H hd rfl rfl) (fun _ => rfl) fun _ wd2 v H3 hq => ?_
 clear H hd
 obtain ⟨b1, rfl, hq⟩ := hq
 replace hS : SH M X w [Ent.blk b1 [.int .u8 first.Kind, .string ⟨⟨first.Word⟩⟩, .int .i64 first.Num, .int .u8 first.Color.Red, .int .u8 first.Color.Green, .int .u8 first.Color.Blue, .int .u8 first.Color.Alpha]] _ := hS.join [] [] rfl rfl hq
 clear hq
 have hd := hS.hand [] [0] rfl rfl
 refine m_stp [6, 0, 1, 5] [(0, [], .string ⟨⟨name_⟩⟩), (1, [], .bool inherited), (5, [], .pointer (some ⟨b1, 0, none⟩))] H3 rfl rfl rfl rfl (o_alloc [.string ⟨⟨[]⟩⟩, .bool false, .int .u8 0, .string ⟨⟨[]⟩⟩, .int .i64 0, .int .u8 0, .int .u8 0, .int .u8 0, .int .u8 0, .slice none 0 0, .slice none 0 0, .bool false] (z := .agg ⟨[.string ⟨⟨[]⟩⟩, .bool false, .int .u8 0, .string ⟨⟨[]⟩⟩, .int .i64 0, .int .u8 0, .int .u8 0, .int .u8 0, .int .u8 0, .slice none 0 0, .slice none 0 0, .bool false]⟩) hd (by kernel_rfl) rfl) (fun _ => rfl) fun _ wd5 v H6 hq => ?_
 clear H3 hd
 obtain ⟨b4, rfl, hq⟩ := hq
 replace hS : SH M X w [Ent.blk b4 [.string ⟨⟨[]⟩⟩, .bool false, .int .u8 0, .string ⟨⟨[]⟩⟩, .int .i64 0, .int .u8 0, .int .u8 0, .int .u8 0, .int .u8 0, .slice none 0 0, .slice none 0 0, .bool false], Ent.blk b1 [.int .u8 first.Kind, .string ⟨⟨first.Word⟩⟩, .int .i64 first.Num, .int .u8 first.Color.Red, .int .u8 first.Color.Green, .int .u8 first.Color.Blue, .int .u8 first.Color.Alpha]] _ := hS.join [] [0] rfl rfl hq
 clear hq
 refine wl_end rfl ?_
 refine w_seq ?_
 refine wl_start ?_
 refine wl_batch 0 3 [(.agg ⟨[.int .u8 first.Kind, .string ⟨⟨first.Word⟩⟩, .int .i64 first.Num, .int .u8 first.Color.Red, .int .u8 first.Color.Green, .int .u8 first.Color.Blue, .int .u8 first.Color.Alpha]⟩)] [6, 7, 8, 9] [(6, [], .pointer (some ⟨b4, 0, none⟩)), (7, [], .string ⟨⟨name_⟩⟩), (8, [], .bool inherited), (9, [], .agg ⟨[.int .u8 first.Kind, .string ⟨⟨first.Word⟩⟩, .int .i64 first.Num, .int .u8 first.Color.Red, .int .u8 first.Color.Green, .int .u8 first.Color.Blue, .int .u8 first.Color.Alpha]⟩)] [fun wz => V.atN b1 0 [.int .u8 first.Kind, .string ⟨⟨first.Word⟩⟩, .int .i64 first.Num, .int .u8 first.Color.Red, .int .u8 first.Color.Green, .int .u8 first.Color.Blue, .int .u8 first.Color.Alpha] 0 wz] H6 (by decide) (by kernel_rfl) ⟨((hS.bk 1 rfl).atD rfl), trivial⟩ fun _ wd7 H8 hb => ?_
 clear H6
 replace hS := hS.below hb
 clear hb
 have hd := hS.hand [] [0, 1] rfl rfl
 refine m_stp [10, 6, 7, 8, 9] [(6, [], .pointer (some ⟨b4, 0, none⟩)), (7, [], .string ⟨⟨name_⟩⟩), (8, [], .bool inherited), (9, [], .agg ⟨[.int .u8 first.Kind, .string ⟨⟨first.Word⟩⟩, .int .i64 first.Num, .int .u8 first.Color.Red, .int .u8 first.Color.Green, .int .u8 first.Color.Blue, .int .u8 first.Color.Alpha]⟩)] H8 rfl rfl rfl rfl (o_lit (T := (tI .u8)) (E := 5) (zv := .int .u8 0) [.int .u8 7, .int .u8 8] ([7, 8] : List Int) [gL [], gL []] _ H8 hd rfl (by kernel_rfl) (by kernel_rfl) (by kernel_rfl) (by kernel_rfl) (by kernel_rfl) (by kernel_rfl) (by kernel_rfl) rfl (InnL.cons trivial (InnL.cons trivial InnL.nil))) (fun _ => rfl) fun _ wd11 v H12 hq => ?_
 clear H8 hd
 obtain ⟨g9, rfl, hq⟩ := hq
 replace hS : SH M X w [Ent.own 5 (tI .u8) ([7, 8] : List Int) g9, Ent.blk b4 [.string ⟨⟨[]⟩⟩, .bool false, .int .u8 0, .string ⟨⟨[]⟩⟩, .int .i64 0, .int .u8 0, .int .u8 0, .int .u8 0, .int .u8 0, .slice none 0 0, .slice none 0 0, .bool false], Ent.blk b1 [.int .u8 first.Kind, .string ⟨⟨first.Word⟩⟩, .int .i64 first.Num, .int .u8 first.Color.Red, .int .u8 first.Color.Green, .int .u8 first.Color.Blue, .int .u8 first.Color.Alpha]] _ := hS.join [] [0, 1] rfl rfl hq
 clear hq
 refine wl_batch 4 5 [] [6, 11] [(6, [], .pointer (some ⟨b4, 0, none⟩)), (11, [], .agg ⟨[.string ⟨⟨name_⟩⟩, .bool inherited, .int .u8 first.Kind, .string ⟨⟨first.Word⟩⟩, .int .i64 first.Num, .int .u8 first.Color.Red, .int .u8 first.Color.Green, .int .u8 first.Color.Blue, .int .u8 first.Color.Alpha, .slice none 0 0, .slice g9.a 2 g9.c, .bool false]⟩)] [] H12 (by decide) (by kernel_rfl) trivial fun _ wd13 H14 hb => ?_
 clear H12
 replace hS := hS.below hb
 clear hb
 have hd := hS.hand [1] [0, 2] rfl rfl
 refine m_stp0 [6] [(6, [], .pointer (some ⟨b4, 0, none⟩))] H14 rfl rfl rfl (o_store [.string ⟨⟨name_⟩⟩, .bool inherited, .int .u8 first.Kind, .string ⟨⟨first.Word⟩⟩, .int .i64 first.Num, .int .u8 first.Color.Red, .int .u8 first.Color.Green, .int .u8 first.Color.Blue, .int .u8 first.Color.Alpha, .slice none 0 0, .slice g9.a 2 g9.c, .bool false] H14 hd rfl rfl (by kernel_rfl) rfl rfl rfl) rfl fun _ wd15 H16 hq => ?_
 clear H14 hd
 obtain ⟨_, hq⟩ := hq
 replace hS : SH M X w [Ent.blk b4 [.string ⟨⟨name_⟩⟩, .bool inherited, .int .u8 first.Kind, .string ⟨⟨first.Word⟩⟩, .int .i64 first.Num, .int .u8 first.Color.Red, .int .u8 first.Color.Green, .int .u8 first.Color.Blue, .int .u8 first.Color.Alpha, .slice none 0 0, .slice g9.a 2 g9.c, .bool false], Ent.own 5 (tI .u8) ([7, 8] : List Int) g9, Ent.blk b1 [.int .u8 first.Kind, .string ⟨⟨first.Word⟩⟩, .int .i64 first.Num, .int .u8 first.Color.Red, .int .u8 first.Color.Green, .int .u8 first.Color.Blue, .int .u8 first.Color.Alpha]] _ := hS.join [1] [0, 2] rfl rfl hq
 clear hq
 refine wl_end rfl ?_
 replace hS : SH M X w [Ent.blk b4 [.string ⟨⟨name_⟩⟩, .bool inherited, .int .u8 first.Kind, .string ⟨⟨first.Word⟩⟩, .int .i64 first.Num, .int .u8 first.Color.Red, .int .u8 first.Color.Green, .int .u8 first.Color.Blue, .int .u8 first.Color.Alpha, .slice none 0 0, .slice g9.a 2 g9.c, .bool false], Ent.own 5 (tI .u8) ([7, 8] : List Int) g9] _ := hS.sel [0, 1] rfl
 refine w_ret ?_
 subst hm
 replace hS : SH M X w [Ent.own 9 tS ([] : List Str) (.nil), Ent.blk b4 [.string ⟨⟨name_⟩⟩, .bool inherited, .int .u8 first.Kind, .string ⟨⟨first.Word⟩⟩, .int .i64 first.Num, .int .u8 first.Color.Red, .int .u8 first.Color.Green, .int .u8 first.Color.Blue, .int .u8 first.Color.Alpha, .slice none 0 0, .slice g9.a 2 g9.c, .bool false], Ent.own 5 (tI .u8) ([7, 8] : List Int) g9] _ := hS.addNil 9 tS
 exact retR1 H16 rfl (oneRes_agg rfl (hS.bk 1 rfl) Tryd.underlying68 rfl (by kernel_rfl)) ⟨_, rfl, Gh.nil, g9, rfl, (hS.sel [0, 2] rfl)⟩
theorem props_color_ok  (name_ : Str) (inherited : Bool) (first : TVal) (r : TProp) (hm : props_color name_ inherited first = r) (M : Av) (w : World) (hS : S0 M [] w) : DoesX Tryd.prog 44 ⟨[.string ⟨⟨name_⟩⟩, .bool inherited, .agg ⟨[.int .u8 first.Kind, .string ⟨⟨first.Word⟩⟩, .int .i64 first.Num, .int .u8 first.Color.Red, .int .u8 first.Color.Green, .int .u8 first.Color.Blue, .int .u8 first.Color.Alpha]⟩]⟩ w (fun v w' => ∃ (g901 : Gh) (g903 : Gh), v = .agg ⟨[.string ⟨⟨r.Name⟩⟩, .bool r.Inherited, .int .u8 r.Initial.Kind, .string ⟨⟨r.Initial.Word⟩⟩, .int .i64 r.Initial.Num, .int .u8 r.Initial.Color.Red, .int .u8 r.Initial.Color.Green, .int .u8 r.Initial.Color.Blue, .int .u8 r.Initial.Color.Alpha, .slice g901.a r.Words.length g901.c, .slice g903.a r.Kinds.length g903.c, .bool r.Least]⟩ ∧ SH M (fpl []) w [Ent.own 9 tS r.Words g901, Ent.own 5 (tI .u8) r.Kinds g903] w') := ⟨Tryd.call44 _, props_color_w M   name_ inherited first r hm w hS⟩

abbrev gE0 : Ent := Ent.im (tI .u8) gl_strings_asciiSpace (Gh.mk (some ⟨0, 0, none⟩) 256 fun _ _ => .nil)
structure Tstrings_span where
  start : Int
  end_ : Int
instance : Inhabited Tstrings_span := ⟨⟨default, default⟩⟩
def tystrings_span : Ty Tstrings_span where
  z := 2
  enc := fun x g => [.int .i64 x.start, .int .i64 x.end_]
  inn := fun _ _ _ _ => True
  len := fun _ _ => rfl
  one := fun _ _ => rfl
  kp := fun _ _ _ => trivial
  anti := fun _ _ => trivial
  fresh := fun _ => trivial
def strings_Fields_L1 (m : Nat) (s : Str) : Nat → Int → Int → Int → Int → Option (Int × Int)
  | 0, _, _, _, _ => none
  | kk + 1, v12, v13, v14, v15 =>
    cond (decide (v15 < (ln s))) (
    chk (0 ≤ v15 ∧ v15 < ln s) <|
    chk (0 ≤ (bat s v15) ∧ (bat s v15) < (256 : Int)) <|
    lt (w64 (gi gl_strings_asciiSpace (bat s v15))) fun x24 =>
    lt (ibit .and .i64 v13 (ibit .xor .i64 (-1) x24)) fun x27 =>
    strings_Fields_L1 m s kk (w64 (v12 + x27)) x24 (ibit .or .u8 v14 (bat s v15)) (w64 (v15 + 1))) (
    some (v12, v14))
def strings_Fields_L2 (m : Nat) (s : Str) : Nat → Int → Option (Int)
  | 0, _ => none
  | kk + 1, v55 =>
    chk ((decide (v55 < (ln s))) = true → 0 ≤ v55 ∧ v55 < ln s) <|
    chk ((decide (v55 < (ln s))) = true → 0 ≤ (bat s v55) ∧ (bat s v55) < (256 : Int)) <|
    lt (cond (decide (v55 < (ln s))) ((gi gl_strings_asciiSpace (bat s v55)) != 0) false) fun x58 =>
    cond x58 (
    strings_Fields_L2 m s kk (w64 (v55 + 1))) (
    some v55)
def strings_Fields_L4 (m : Nat) (s : Str) : Nat → Int → Option (Int)
  | 0, _ => none
  | kk + 1, v95 =>
    chk ((decide (v95 < (ln s))) = true → 0 ≤ v95 ∧ v95 < ln s) <|
    chk ((decide (v95 < (ln s))) = true → 0 ≤ (bat s v95) ∧ (bat s v95) < (256 : Int)) <|
    lt (cond (decide (v95 < (ln s))) ((gi gl_strings_asciiSpace (bat s v95)) != 0) false) fun x98 =>
    cond x98 (
    strings_Fields_L4 m s kk (w64 (v95 + 1))) (
    some v95)
def strings_Fields_L3 (m : Nat) (s : Str) : Nat → (List Str) → Int → Int → Int → Option (Int × Int × (List Str))
  | 0, _, _, _, _ => none
  | kk + 1, v68, v70, v71, v72 =>
    cond (decide (v72 < (ln s))) (
    chk (0 ≤ v72 ∧ v72 < ln s) <|
    chk (0 ≤ (bat s v72) ∧ (bat s v72) < (256 : Int)) <|
    lt ((gi gl_strings_asciiSpace (bat s v72)) == 0) fun x77 =>
    cond x77 (
    strings_Fields_L3 m s kk v68 v70 v71 (w64 (v72 + 1))) (
    chk (0 ≤ v71 ∧ v71 ≤ v72 ∧ v72 ≤ ln s) <|
    chk (0 ≤ v70 ∧ v70 < ln v68) <|
    lt (setl v68 v70 (sub s v71 v72)) fun q89 =>
    Option.bind (
    strings_Fields_L4 m s m (w64 (v72 + 1))) fun (z94 : Int) =>
    strings_Fields_L3 m s kk q89 (w64 (v70 + 1)) z94 z94)) (
    some (v70, v71, v68))
def strings_Fields (m : Nat) (s : Str) : Option (List Str) :=
  Option.bind (
  strings_Fields_L1 m s m 0 1 0 0) fun (z9 : Int × Int) =>
  cond (decide (128 ≤ z9.2)) (
  none) (
  chk (0 ≤ z9.1 ∧ z9.1 ≤ z9.1 ∧ z9.1 ≤ 1099511627776) <|
  lt (List.replicate (z9.1).toNat ([] : Str)) fun q41 =>
  Option.bind (
  strings_Fields_L2 m s m 0) fun (z54 : Int) =>
  Option.bind (
  strings_Fields_L3 m s m q41 0 z54 z54) fun (z67 : Int × Int × (List Str)) =>
  Option.bind (
  cond (decide (z67.2.1 < (ln s))) (
  chk (0 ≤ z67.2.1 ∧ z67.2.1 ≤ ln s) <|
  chk (0 ≤ z67.1 ∧ z67.1 < ln z67.2.2) <|
  lt (setl z67.2.2 z67.1 (sub s z67.2.1 (ln s))) fun q122 =>
  some q122) (
  some z67.2.2)) fun (z112 : List Str) =>
  some z112)
theorem strings_Fields_w  (M : Av) (m : Nat) (s : Str) (r : List Str) (hm : strings_Fields m s = some r) (w : World) (hS : S0 M [gE0] w) : Calls Tryd.prog 60 ⟨[.string ⟨⟨s⟩⟩]⟩ w (fun e w' => ∃ v, e = .returned v ∧ ∃ (g901 : Gh), v = .slice g901.a r.length g901.c ∧ SH M (fpl [gE0]) w [Ent.own 9 tS r g901] w') := by
 rw [strings_Fields] at hm
 have hS0 : SH M (fpl [gE0]) w [gE0] w := hS
 generalize hX : fpl [gE0] = X at hS0 ⊢
 clear hS hX
 have hS := hS0
 clear hS0
 refine calls_entryP Tryd.func60 rfl Tryd.ntmps60 rfl fun _ H => ?_
 refine s_reg [] [0] [(0, [], .string ⟨⟨s⟩⟩)] [] H (by kernel_rfl) trivial fun _ wd1 H2 hb => ?_
 clear H
 replace hS := hS.below hb
 clear hb
 refine s_reg [] [0, 3] [(0, [], .string ⟨⟨s⟩⟩), (3, [], .int .i64 0)] [] H2 (by kernel_rfl) trivial fun _ wd3 H4 hb => ?_
 clear H2
 replace hS := hS.below hb
 clear hb
 refine s_reg [] [0, 3, 4] [(0, [], .string ⟨⟨s⟩⟩), (3, [], .int .i64 0), (4, [], .int .i64 1)] [] H4 (by kernel_rfl) trivial fun _ wd5 H6 hb => ?_
 clear H4
 replace hS := hS.below hb
 clear hb
 refine s_reg [] [0, 3, 4, 5] [(0, [], .string ⟨⟨s⟩⟩), (3, [], .int .i64 0), (4, [], .int .i64 1), (5, [], .int .u8 0)] [] H6 (by kernel_rfl) trivial fun _ wd7 H8 hb => ?_
 clear H6
 replace hS := hS.below hb
 clear hb
 obtain ⟨z9, hz, hm⟩ := bindE hm
 refine w_cut (fun a' w' => Fr 106 [(0, [], .string ⟨⟨s⟩⟩), (3, [], .int .i64 z9.1), (5, [], .int .u8 z9.2)] a' ∧ SH M X w [gE0] w') ?_ ?_
 ·replace hm := hz
  refine s_reg [] [0, 3, 4, 5, 6] [(0, [], .string ⟨⟨s⟩⟩), (3, [], .int .i64 0), (4, [], .int .i64 1), (5, [], .int .u8 0), (6, [], .int .i64 0)] [] H8 (by kernel_rfl) trivial fun _ wd10 H11 hb => ?_
  clear H8
  replace hS := hS.below hb
  clear hb
  refine w_block ?_
  refine w_loop (fun kk a' w' => ∃ (v12 : Int) (v13 : Int) (v14 : Int) (v15 : Int), strings_Fields_L1 m s kk v12 v13 v14 v15 = some _ ∧ Fr 106 [(0, [], .string ⟨⟨s⟩⟩), (3, [], .int .i64 v12), (4, [], .int .i64 v13), (5, [], .int .u8 v14), (6, [], .int .i64 v15)] a' ∧ SH M X w [gE0] w') ⟨_, 0, 1, 0, 0, hm, FrG.keep (ks := [0, 3, 4, 5, 6]) H11 (by kernel_rfl), hS⟩ ?_
  clear hm H11 hS
  rintro kk _ wd35 ⟨v12, v13, v14, v15, hm, H, hS⟩
  cases kk with
  | zero => exact noneE hm
  | succ kk =>
   rw [strings_Fields_L1] at hm
   refine w_seq ?_
   refine s_reg [] [0, 3, 4, 5, 6, 16] [(0, [], .string ⟨⟨s⟩⟩), (3, [], .int .i64 v12), (4, [], .int .i64 v13), (5, [], .int .u8 v14), (6, [], .int .i64 v15), (16, [], .bool (decide (v15 < (ln s))))] [] H (by kernel_rfl) trivial fun _ wd16 H17 hb => ?_
   clear H
   replace hS := hS.below hb
   clear hb
   refine w_if H17 rfl (fun hc => ?_) (fun hc => ?c34)
   case c34 =>
    replace hm := bF hc hm
    refine w_exit rfl ?_
    obtain rfl := someE hm
    exact ⟨FrG.keep (ks := [0, 3, 5]) H17 (by kernel_rfl), hS⟩
   replace hm := bT hc hm
   refine w_skip ?_
   refine w_seq ?_
   refine w_block ?_
   obtain ⟨ho18, hm⟩ := chkE hm
   refine s_reg [] [0, 3, 4, 5, 6, 7] [(0, [], .string ⟨⟨s⟩⟩), (3, [], .int .i64 v12), (4, [], .int .i64 v13), (5, [], .int .u8 v14), (6, [], .int .i64 v15), (7, [], .int .u8 (bat s v15))] [fun _ => 0 ≤ v15 ∧ v15 < ln s] H17 (by kernel_rfl) ⟨ho18, trivial⟩ fun _ wd19 H20 hb => ?_
   clear H17
   replace hS := hS.below hb
   clear hb
   refine s_reg [] [0, 3, 4, 5, 6, 7] [(0, [], .string ⟨⟨s⟩⟩), (3, [], .int .i64 v12), (4, [], .int .i64 v13), (5, [], .int .u8 (ibit .or .u8 v14 (bat s v15))), (6, [], .int .i64 v15), (7, [], .int .u8 (bat s v15))] [] H20 (by kernel_rfl) trivial fun _ wd21 H22 hb => ?_
   clear H20
   replace hS := hS.below hb
   clear hb
   obtain ⟨ho23, hm⟩ := chkE hm
   obtain ⟨x24, hx24, hm⟩ := letE hm
   refine s_reg [(.int .u8 (gi gl_strings_asciiSpace (bat s v15)))] [0, 3, 4, 5, 6, 8] [(0, [], .string ⟨⟨s⟩⟩), (3, [], .int .i64 v12), (4, [], .int .i64 v13), (5, [], .int .u8 (ibit .or .u8 v14 (bat s v15))), (6, [], .int .i64 v15), (8, [], .int .i64 x24)] [fun _ => 0 ≤ (bat s v15) ∧ (bat s v15) < (256 : Int), fun wz => V.at1 ⟨0, 0 + ((bat s v15)).toNat * 1, none⟩ (.int .u8 (gi gl_strings_asciiSpace (bat s v15))) wz] H22 (by subst hx24; kernel_rfl) ⟨ho23, ((hS.im 0 rfl).at1 ho23 0 rfl), trivial⟩ fun _ wd25 H26 hb => ?_
   clear H22
   replace hS := hS.below hb
   clear hb
   obtain ⟨x27, hx27, hm⟩ := letE hm
   refine s_reg [] [0, 3, 5, 6, 8] [(0, [], .string ⟨⟨s⟩⟩), (3, [], .int .i64 (w64 (v12 + x27))), (5, [], .int .u8 (ibit .or .u8 v14 (bat s v15))), (6, [], .int .i64 v15), (8, [], .int .i64 x24)] [] H26 (by subst hx27; kernel_rfl) trivial fun _ wd28 H29 hb => ?_
   clear H26
   replace hS := hS.below hb
   clear hb
   refine w_reg [] [0, 3, 4, 5, 6] [(0, [], .string ⟨⟨s⟩⟩), (3, [], .int .i64 (w64 (v12 + x27))), (4, [], .int .i64 x24), (5, [], .int .u8 (ibit .or .u8 v14 (bat s v15))), (6, [], .int .i64 v15)] [] H29 (by kernel_rfl) trivial fun _ wd30 H31 hb => ?_
   clear H29
   replace hS := hS.below hb
   clear hb
   refine w_reg [] [0, 3, 4, 5, 6] [(0, [], .string ⟨⟨s⟩⟩), (3, [], .int .i64 (w64 (v12 + x27))), (4, [], .int .i64 x24), (5, [], .int .u8 (ibit .or .u8 v14 (bat s v15))), (6, [], .int .i64 (w64 (v15 + 1)))] [] H31 (by kernel_rfl) trivial fun _ wd32 H33 hb => ?_
   clear H31
   replace hS := hS.below hb
   clear hb
   exact ⟨_, Nat.lt_succ_self _, w64 (v12 + x27), x24, ibit .or .u8 v14 (bat s v15), w64 (v15 + 1), hm, FrG.keep (ks := [0, 3, 4, 5, 6]) H33 (by kernel_rfl), hS⟩
 ·rintro _ wd131 ⟨H, hS⟩
  refine w_seq ?_
  refine s_reg [] [0, 3, 37] [(0, [], .string ⟨⟨s⟩⟩), (3, [], .int .i64 z9.1), (37, [], .bool (decide (128 ≤ z9.2)))] [] H (by kernel_rfl) trivial fun _ wd36 H37 hb => ?_
  clear H
  replace hS := hS.below hb
  clear hb
  refine w_if H37 rfl (fun hc => ?c130) (fun hc => ?_)
  case c130 =>
   replace hm := bT hc hm
   exact noneE hm
  replace hm := bF hc hm
  refine w_skip ?_
  refine w_seq ?_
  refine wl_start ?_
  refine wl_batch 0 1 [] [0, 40] [(0, [], .string ⟨⟨s⟩⟩), (40, [], .int .i64 z9.1)] [] H37 (by decide) (by kernel_rfl) trivial fun _ wd38 H39 hb => ?_
  clear H37
  replace hS := hS.below hb
  clear hb
  obtain ⟨ho40, hm⟩ := chkE hm
  obtain ⟨q41, hq41, hm⟩ := letE hm
  have hd := hS.hand [] [0] rfl rfl
  refine m_stp [41, 0] [(0, [], .string ⟨⟨s⟩⟩)] H39 rfl rfl rfl rfl (o_make (T := tS) (E := 9) (zv := .string ⟨⟨[]⟩⟩) ([] : Str) H39 hd rfl rfl (by kernel_rfl) (by kernel_rfl) rfl rfl (fun _ _ => trivial) ho40) (fun _ => rfl) fun _ wd42 v H43 hq => ?_
  clear H39 hd
  obtain ⟨g44, rfl, hq⟩ := hq
  rw [← hq41] at hq
  rw [← hq41] at H43
  replace hS : SH M X w [Ent.own 9 tS q41 g44, gE0] _ := hS.join [] [0] rfl rfl hq
  clear hq
  refine wl_batch 2 3 [] [0, 9] [(0, [], .string ⟨⟨s⟩⟩), (9, [], .slice g44.a q41.length g44.c)] [] H43 (by decide) (by kernel_rfl) trivial fun _ wd46 H47 hb => ?_
  clear H43
  replace hS := hS.below hb
  clear hb
  refine wl_end rfl ?_
  refine s_reg [] [0, 9, 10] [(0, [], .string ⟨⟨s⟩⟩), (9, [], .slice g44.a q41.length g44.c), (10, [], .int .i64 0)] [] H47 (by kernel_rfl) trivial fun _ wd48 H49 hb => ?_
  clear H47
  replace hS := hS.below hb
  clear hb
  refine s_reg [] [0, 9, 10] [(0, [], .string ⟨⟨s⟩⟩), (9, [], .slice g44.a q41.length g44.c), (10, [], .int .i64 0)] [] H49 (by kernel_rfl) trivial fun _ wd50 H51 hb => ?_
  clear H49
  replace hS := hS.below hb
  clear hb
  refine s_reg [] [0, 9, 10, 12] [(0, [], .string ⟨⟨s⟩⟩), (9, [], .slice g44.a q41.length g44.c), (10, [], .int .i64 0), (12, [], .int .i64 0)] [] H51 (by kernel_rfl) trivial fun _ wd52 H53 hb => ?_
  clear H51
  replace hS := hS.below hb
  clear hb
  obtain ⟨z54, hz, hm⟩ := bindE hm
  refine w_cut (fun a' w' => Fr 106 [(0, [], .string ⟨⟨s⟩⟩), (9, [], .slice g44.a q41.length g44.c), (10, [], .int .i64 0), (12, [], .int .i64 z54)] a' ∧ SH M X w [Ent.own 9 tS q41 g44, gE0] w') ?_ ?_
  ·replace hm := hz
   refine w_block ?_
   refine w_loop (fun kk a' w' => ∃ (v55 : Int), strings_Fields_L2 m s kk v55 = some _ ∧ Fr 106 [(0, [], .string ⟨⟨s⟩⟩), (9, [], .slice g44.a q41.length g44.c), (10, [], .int .i64 0), (12, [], .int .i64 v55)] a' ∧ SH M X w [Ent.own 9 tS q41 g44, gE0] w') ⟨_, 0, hm, FrG.keep (ks := [0, 9, 10, 12]) H53 (by kernel_rfl), hS⟩ ?_
   clear hm H53 hS
   rintro kk _ wd64 ⟨v55, hm, H, hS⟩
   cases kk with
   | zero => exact noneE hm
   | succ kk =>
    rw [strings_Fields_L2] at hm
    refine w_seq ?_
    obtain ⟨ho56, hm⟩ := chkE hm
    obtain ⟨ho57, hm⟩ := chkE hm
    obtain ⟨x58, hx58, hm⟩ := letE hm
    refine s_reg [(.int .u8 (gi gl_strings_asciiSpace (bat s v55)))] [0, 9, 10, 12, 53] [(0, [], .string ⟨⟨s⟩⟩), (9, [], .slice g44.a q41.length g44.c), (10, [], .int .i64 0), (12, [], .int .i64 v55), (53, [], .bool x58)] [fun _ => ((decide (v55 < (ln s))) = true ∧ True → 0 ≤ v55 ∧ v55 < ln s), fun _ => ((decide (v55 < (ln s))) = true ∧ True → 0 ≤ (bat s v55) ∧ (bat s v55) < (256 : Int)), fun wz => ((decide (v55 < (ln s))) = true ∧ True → V.at1 ⟨0, 0 + ((bat s v55)).toNat * 1, none⟩ (.int .u8 (gi gl_strings_asciiSpace (bat s v55))) wz)] H (by subst hx58; kernel_rfl) ⟨fun hg => (ho56 hg.1), fun hg => (ho57 hg.1), fun hg => (hS.im 1 rfl).at1 (ho57 hg.1) 0 rfl, trivial⟩ fun _ wd59 H60 hb => ?_
    clear H
    replace hS := hS.below hb
    clear hb
    refine w_if H60 rfl (fun hc => ?_) (fun hc => ?c63)
    case c63 =>
     replace hm := bF hc hm
     refine w_exit rfl ?_
     obtain rfl := someE hm
     exact ⟨FrG.keep (ks := [0, 9, 10, 12]) H60 (by kernel_rfl), hS⟩
    replace hm := bT hc hm
    refine w_skip ?_
    refine w_block ?_
    refine w_reg [] [0, 9, 10, 12] [(0, [], .string ⟨⟨s⟩⟩), (9, [], .slice g44.a q41.length g44.c), (10, [], .int .i64 0), (12, [], .int .i64 (w64 (v55 + 1)))] [] H60 (by kernel_rfl) trivial fun _ wd61 H62 hb => ?_
    clear H60
    replace hS := hS.below hb
    clear hb
    exact ⟨_, Nat.lt_succ_self _, w64 (v55 + 1), hm, FrG.keep (ks := [0, 9, 10, 12]) H62 (by kernel_rfl), hS⟩
  ·rintro _ wd129 ⟨H, hS⟩
   refine s_reg [] [0, 9, 10, 11, 12] [(0, [], .string ⟨⟨s⟩⟩), (9, [], .slice g44.a q41.length g44.c), (10, [], .int .i64 0), (11, [], .int .i64 z54), (12, [], .int .i64 z54)] [] H (by kernel_rfl) trivial fun _ wd65 H66 hb => ?_
   clear H
   replace hS := hS.below hb
   clear hb
   obtain ⟨z67, hz, hm⟩ := bindE hm
   refine w_cut (fun a' w' => ∃ (g111 : Gh), Fr 106 [(0, [], .string ⟨⟨s⟩⟩), (9, [], .slice g111.a z67.2.2.length g111.c), (10, [], .int .i64 z67.1), (11, [], .int .i64 z67.2.1)] a' ∧ SH M X w [Ent.own 9 tS z67.2.2 g111, gE0] w') ?_ ?_
   ·replace hm := hz
    refine w_block ?_
    refine w_loop (fun kk a' w' => ∃ (v68 : List Str) (v70 : Int) (v71 : Int) (v72 : Int) (g69 : Gh), strings_Fields_L3 m s kk v68 v70 v71 v72 = some _ ∧ Fr 106 [(0, [], .string ⟨⟨s⟩⟩), (9, [], .slice g69.a v68.length g69.c), (10, [], .int .i64 v70), (11, [], .int .i64 v71), (12, [], .int .i64 v72)] a' ∧ SH M X w [Ent.own 9 tS v68 g69, gE0] w') ⟨_, q41, 0, z54, z54, g44, hm, FrG.keep (ks := [0, 9, 10, 11, 12]) H66 (by kernel_rfl), hS⟩ ?_
    clear hm H66 hS
    rintro kk _ wd110 ⟨v68, v70, v71, v72, g69, hm, H, hS⟩
    cases kk with
    | zero => exact noneE hm
    | succ kk =>
     rw [strings_Fields_L3] at hm
     refine w_seq ?_
     refine s_reg [] [0, 9, 10, 11, 12, 60] [(0, [], .string ⟨⟨s⟩⟩), (9, [], .slice g69.a v68.length g69.c), (10, [], .int .i64 v70), (11, [], .int .i64 v71), (12, [], .int .i64 v72), (60, [], .bool (decide (v72 < (ln s))))] [] H (by kernel_rfl) trivial fun _ wd73 H74 hb => ?_
     clear H
     replace hS := hS.below hb
     clear hb
     refine w_if H74 rfl (fun hc => ?_) (fun hc => ?c109)
     case c109 =>
      replace hm := bF hc hm
      refine w_exit rfl ?_
      obtain rfl := someE hm
      exact ⟨g69, FrG.keep (ks := [0, 9, 10, 11]) H74 (by kernel_rfl), hS⟩
     replace hm := bT hc hm
     refine w_skip ?_
     refine w_block ?_
     refine w_seq ?_
     obtain ⟨ho75, hm⟩ := chkE hm
     obtain ⟨ho76, hm⟩ := chkE hm
     obtain ⟨x77, hx77, hm⟩ := letE hm
     refine s_reg [(.int .u8 (gi gl_strings_asciiSpace (bat s v72)))] [0, 9, 10, 11, 12, 66] [(0, [], .string ⟨⟨s⟩⟩), (9, [], .slice g69.a v68.length g69.c), (10, [], .int .i64 v70), (11, [], .int .i64 v71), (12, [], .int .i64 v72), (66, [], .bool x77)] [fun _ => 0 ≤ v72 ∧ v72 < ln s, fun _ => 0 ≤ (bat s v72) ∧ (bat s v72) < (256 : Int), fun wz => V.at1 ⟨0, 0 + ((bat s v72)).toNat * 1, none⟩ (.int .u8 (gi gl_strings_asciiSpace (bat s v72))) wz] H74 (by subst hx77; kernel_rfl) ⟨ho75, ho76, ((hS.im 1 rfl).at1 ho76 0 rfl), trivial⟩ fun _ wd78 H79 hb => ?_
     clear H74
     replace hS := hS.below hb
     clear hb
     refine w_if H79 rfl (fun hc => ?c108) (fun hc => ?_)
     case c108 =>
      replace hm := bT hc hm
      refine s_reg [] [0, 9, 10, 11, 12] [(0, [], .string ⟨⟨s⟩⟩), (9, [], .slice g69.a v68.length g69.c), (10, [], .int .i64 v70), (11, [], .int .i64 v71), (12, [], .int .i64 (w64 (v72 + 1)))] [] H79 (by kernel_rfl) trivial fun _ wd80 H81 hb => ?_
      clear H79
      replace hS := hS.below hb
      clear hb
      refine w_exit rfl ?_
      exact ⟨_, Nat.lt_succ_self _, v68, v70, v71, w64 (v72 + 1), g69, hm, FrG.keep (ks := [0, 9, 10, 11, 12]) H81 (by kernel_rfl), hS⟩
     replace hm := bF hc hm
     refine w_skip ?_
     refine w_seq ?_
     refine wl_start ?_
     obtain ⟨ho82, hm⟩ := chkE hm
     obtain ⟨ho83, hm⟩ := chkE hm
     refine wl_batch 0 7 [] [0, 9, 10, 12, 74, 75] [(0, [], .string ⟨⟨s⟩⟩), (9, [], .slice g69.a v68.length g69.c), (10, [], .int .i64 v70), (12, [], .int .i64 v72), (74, [], .string ⟨⟨sub s v71 v72⟩⟩), (75, [], .pointer (some ⟨ab g69.a, ao g69.a + (v70).toNat * 1, none⟩))] [fun _ => 0 ≤ v71 ∧ v71 ≤ v72 ∧ v72 ≤ ln s, fun _ => oka g69.a ∧ 0 ≤ v70 ∧ v70 < ln v68] H79 (by decide) (by kernel_rfl) ⟨ho82, ((hS.osl 0 rfl).oki ho83), trivial⟩ fun _ wd84 H85 hb => ?_
     clear H79
     replace hS := hS.below hb
     clear hb
     have hd := hS.hand [0] [1] rfl rfl
     refine m_stp0 [0, 9, 10, 12] [(0, [], .string ⟨⟨s⟩⟩), (9, [], .slice g69.a v68.length g69.c), (10, [], .int .i64 v70), (12, [], .int .i64 v72)] H85 rfl rfl rfl (o_estore (T := tS) (g := g69) (q := v68) (ix := v70) (off := 0) (sub s v71 v72) (gL []) H85 hd rfl rfl rfl rfl (by kernel_rfl) rfl rfl ho83 rfl trivial rfl) rfl fun _ wd86 H87 hq => ?_
     clear H85 hd
     obtain ⟨_, hq⟩ := hq
     obtain ⟨s88, hq⟩ := hq
     obtain ⟨q89, hq89, hm⟩ := letE hm
     rw [← hq89] at hq
     have hn : v68.length = q89.length := by rw [hq89, setl_len]
     first | rw [hn] at H87 | skip
     clear hn
     replace hS : SH M X w [Ent.own 9 tS q89 (Gh.mk g69.a g69.c s88), gE0] _ := hS.join [0] [1] rfl rfl hq
     clear hq
     refine wl_end rfl ?_
     refine s_reg [] [0, 9, 10, 12] [(0, [], .string ⟨⟨s⟩⟩), (9, [], .slice (Gh.mk g69.a g69.c s88).a q89.length (Gh.mk g69.a g69.c s88).c), (10, [], .int .i64 (w64 (v70 + 1))), (12, [], .int .i64 v72)] [] H87 (by kernel_rfl) trivial fun _ wd90 H91 hb => ?_
     clear H87
     replace hS := hS.below hb
     clear hb
     refine s_reg [] [0, 9, 10, 12] [(0, [], .string ⟨⟨s⟩⟩), (9, [], .slice (Gh.mk g69.a g69.c s88).a q89.length (Gh.mk g69.a g69.c s88).c), (10, [], .int .i64 (w64 (v70 + 1))), (12, [], .int .i64 (w64 (v72 + 1)))] [] H91 (by kernel_rfl) trivial fun _ wd92 H93 hb => ?_
     clear H91
     replace hS := hS.below hb
     clear hb
     obtain ⟨z94, hz, hm⟩ := bindE hm
     refine w_cut (fun a' w' => Fr 106 [(0, [], .string ⟨⟨s⟩⟩), (9, [], .slice (Gh.mk g69.a g69.c s88).a q89.length (Gh.mk g69.a g69.c s88).c), (10, [], .int .i64 (w64 (v70 + 1))), (12, [], .int .i64 z94)] a' ∧ SH M X w [Ent.own 9 tS q89 (Gh.mk g69.a g69.c s88), gE0] w') ?_ ?_
     ·replace hm := hz
      refine w_block ?_
      refine w_loop (fun kk a' w' => ∃ (v95 : Int), strings_Fields_L4 m s kk v95 = some _ ∧ Fr 106 [(0, [], .string ⟨⟨s⟩⟩), (9, [], .slice (Gh.mk g69.a g69.c s88).a q89.length (Gh.mk g69.a g69.c s88).c), (10, [], .int .i64 (w64 (v70 + 1))), (12, [], .int .i64 v95)] a' ∧ SH M X w [Ent.own 9 tS q89 (Gh.mk g69.a g69.c s88), gE0] w') ⟨_, w64 (v72 + 1), hm, FrG.keep (ks := [0, 9, 10, 12]) H93 (by kernel_rfl), hS⟩ ?_
      clear hm H93 hS
      rintro kk _ wd104 ⟨v95, hm, H, hS⟩
      cases kk with
      | zero => exact noneE hm
      | succ kk =>
       rw [strings_Fields_L4] at hm
       refine w_seq ?_
       obtain ⟨ho96, hm⟩ := chkE hm
       obtain ⟨ho97, hm⟩ := chkE hm
       obtain ⟨x98, hx98, hm⟩ := letE hm
       refine s_reg [(.int .u8 (gi gl_strings_asciiSpace (bat s v95)))] [0, 9, 10, 12, 91] [(0, [], .string ⟨⟨s⟩⟩), (9, [], .slice (Gh.mk g69.a g69.c s88).a q89.length (Gh.mk g69.a g69.c s88).c), (10, [], .int .i64 (w64 (v70 + 1))), (12, [], .int .i64 v95), (91, [], .bool x98)] [fun _ => ((decide (v95 < (ln s))) = true ∧ True → 0 ≤ v95 ∧ v95 < ln s), fun _ => ((decide (v95 < (ln s))) = true ∧ True → 0 ≤ (bat s v95) ∧ (bat s v95) < (256 : Int)), fun wz => ((decide (v95 < (ln s))) = true ∧ True → V.at1 ⟨0, 0 + ((bat s v95)).toNat * 1, none⟩ (.int .u8 (gi gl_strings_asciiSpace (bat s v95))) wz)] H (by subst hx98; kernel_rfl) ⟨fun hg => (ho96 hg.1), fun hg => (ho97 hg.1), fun hg => (hS.im 1 rfl).at1 (ho97 hg.1) 0 rfl, trivial⟩ fun _ wd99 H100 hb => ?_
       clear H
       replace hS := hS.below hb
       clear hb
       refine w_if H100 rfl (fun hc => ?_) (fun hc => ?c103)
       case c103 =>
        replace hm := bF hc hm
        refine w_exit rfl ?_
        obtain rfl := someE hm
        exact ⟨FrG.keep (ks := [0, 9, 10, 12]) H100 (by kernel_rfl), hS⟩
       replace hm := bT hc hm
       refine w_skip ?_
       refine w_block ?_
       refine w_reg [] [0, 9, 10, 12] [(0, [], .string ⟨⟨s⟩⟩), (9, [], .slice (Gh.mk g69.a g69.c s88).a q89.length (Gh.mk g69.a g69.c s88).c), (10, [], .int .i64 (w64 (v70 + 1))), (12, [], .int .i64 (w64 (v95 + 1)))] [] H100 (by kernel_rfl) trivial fun _ wd101 H102 hb => ?_
       clear H100
       replace hS := hS.below hb
       clear hb
       exact ⟨_, Nat.lt_succ_self _, w64 (v95 + 1), hm, FrG.keep (ks := [0, 9, 10, 12]) H102 (by kernel_rfl), hS⟩
     ·rintro _ wd107 ⟨H, hS⟩
      refine w_reg [] [0, 9, 10, 11, 12] [(0, [], .string ⟨⟨s⟩⟩), (9, [], .slice (Gh.mk g69.a g69.c s88).a q89.length (Gh.mk g69.a g69.c s88).c), (10, [], .int .i64 (w64 (v70 + 1))), (11, [], .int .i64 z94), (12, [], .int .i64 z94)] [] H (by kernel_rfl) trivial fun _ wd105 H106 hb => ?_
      clear H
      replace hS := hS.below hb
      clear hb
      exact ⟨_, Nat.lt_succ_self _, q89, w64 (v70 + 1), z94, z94, (Gh.mk g69.a g69.c s88), hm, FrG.keep (ks := [0, 9, 10, 11, 12]) H106 (by kernel_rfl), hS⟩
   ·rintro _ wd128 ⟨g111, H, hS⟩
    obtain ⟨z112, hz, hm⟩ := bindE hm
    refine w_cut (fun a' w' => ∃ (g124 : Gh), Fr 106 [(9, [], .slice g124.a z112.length g124.c)] a' ∧ SH M X w [Ent.own 9 tS z112 g124, gE0] w') ?_ ?_
    ·replace hm := hz
     refine s_reg [] [0, 9, 10, 11, 98] [(0, [], .string ⟨⟨s⟩⟩), (9, [], .slice g111.a z67.2.2.length g111.c), (10, [], .int .i64 z67.1), (11, [], .int .i64 z67.2.1), (98, [], .bool (decide (z67.2.1 < (ln s))))] [] H (by kernel_rfl) trivial fun _ wd113 H114 hb => ?_
     clear H
     replace hS := hS.below hb
     clear hb
     refine w_if H114 rfl (fun hc => ?_) (fun hc => ?c123)
     case c123 =>
      replace hm := bF hc hm
      refine w_skip ?_
      obtain rfl := someE hm
      exact ⟨g111, FrG.keep (ks := [9]) H114 (by kernel_rfl), hS⟩
     replace hm := bT hc hm
     refine wl_start ?_
     obtain ⟨ho115, hm⟩ := chkE hm
     obtain ⟨ho116, hm⟩ := chkE hm
     refine wl_batch 0 6 [] [9, 103, 104] [(9, [], .slice g111.a z67.2.2.length g111.c), (103, [], .string ⟨⟨sub s z67.2.1 (ln s)⟩⟩), (104, [], .pointer (some ⟨ab g111.a, ao g111.a + (z67.1).toNat * 1, none⟩))] [fun _ => 0 ≤ z67.2.1 ∧ z67.2.1 ≤ ln s, fun _ => oka g111.a ∧ 0 ≤ z67.1 ∧ z67.1 < ln z67.2.2] H114 (by decide) (by kernel_rfl) ⟨ho115, ((hS.osl 0 rfl).oki ho116), trivial⟩ fun _ wd117 H118 hb => ?_
     clear H114
     replace hS := hS.below hb
     clear hb
     have hd := hS.hand [0] [1] rfl rfl
     refine m_stp0 [9] [(9, [], .slice g111.a z67.2.2.length g111.c)] H118 rfl rfl rfl (o_estore (T := tS) (g := g111) (q := z67.2.2) (ix := z67.1) (off := 0) (sub s z67.2.1 (ln s)) (gL []) H118 hd rfl rfl rfl rfl (by kernel_rfl) rfl rfl ho116 rfl trivial rfl) rfl fun _ wd119 H120 hq => ?_
     clear H118 hd
     obtain ⟨_, hq⟩ := hq
     obtain ⟨s121, hq⟩ := hq
     obtain ⟨q122, hq122, hm⟩ := letE hm
     rw [← hq122] at hq
     have hn : z67.2.2.length = q122.length := by rw [hq122, setl_len]
     first | rw [hn] at H120 | skip
     clear hn
     replace hS : SH M X w [Ent.own 9 tS q122 (Gh.mk g111.a g111.c s121), gE0] _ := hS.join [0] [1] rfl rfl hq
     clear hq
     refine wl_end rfl ?_
     obtain rfl := someE hm
     exact ⟨(Gh.mk g111.a g111.c s121), FrG.keep (ks := [9]) H120 (by kernel_rfl), hS⟩
    ·rintro _ wd127 ⟨g124, H, hS⟩
     refine s_reg [] [2] [(2, [], .slice g124.a z112.length g124.c)] [] H (by kernel_rfl) trivial fun _ wd125 H126 hb => ?_
     clear H
     replace hS := hS.below hb
     clear hb
     refine w_ret ?_
     obtain rfl := someE hm
     exact retR1 H126 rfl rfl ⟨_, rfl, g124, rfl, (hS.sel [0] rfl)⟩
theorem strings_Fields_ok  (m : Nat) (s : Str) (r : List Str) (hm : strings_Fields m s = some r) (M : Av) (w : World) (hS : S0 M [gE0] w) : DoesX Tryd.prog 60 ⟨[.string ⟨⟨s⟩⟩]⟩ w (fun v w' => ∃ (g901 : Gh), v = .slice g901.a r.length g901.c ∧ SH M (fpl [gE0]) w [Ent.own 9 tS r g901] w') := ⟨Tryd.call60 _, strings_Fields_w M m   s r hm w hS⟩

def props_words (m : Nat) (name_ : Str) (inherited : Bool) (first : Str) (all_ : Str) : Option (TProp) :=
  lt (props_word first) fun y4 =>
  Option.bind (strings_Fields m all_) fun y7 =>
  some (TProp.mk name_ inherited y4 y7 ([] : List Int) false)
theorem props_words_w  (M : Av) (m : Nat) (name_ : Str) (inherited : Bool) (first : Str) (all_ : Str) (r : TProp) (hm : props_words m name_ inherited first all_ = some r) (w : World) (hS : S0 M [gE0] w) : Calls Tryd.prog 45 ⟨[.string ⟨⟨name_⟩⟩, .bool inherited, .string ⟨⟨first⟩⟩, .string ⟨⟨all_⟩⟩]⟩ w (fun e w' => ∃ v, e = .returned v ∧ ∃ (g901 : Gh) (g903 : Gh), v = .agg ⟨[.string ⟨⟨r.Name⟩⟩, .bool r.Inherited, .int .u8 r.Initial.Kind, .string ⟨⟨r.Initial.Word⟩⟩, .int .i64 r.Initial.Num, .int .u8 r.Initial.Color.Red, .int .u8 r.Initial.Color.Green, .int .u8 r.Initial.Color.Blue, .int .u8 r.Initial.Color.Alpha, .slice g901.a r.Words.length g901.c, .slice g903.a r.Kinds.length g903.c, .bool r.Least]⟩ ∧ SH M (fpl [gE0]) w [Ent.own 9 tS r.Words g901, Ent.own 5 (tI .u8) r.Kinds g903] w') := by
 rw [props_words] at hm
 have hS0 : SH M (fpl [gE0]) w [gE0] w := hS
 generalize hX : fpl [gE0] = X at hS0 ⊢
 clear hS hX
 have hS := hS0
 clear hS0
 refine calls_entryP Tryd.func45 rfl Tryd.ntmps45 rfl fun _ H => ?_
 refine w_seq ?_
 refine wl_start ?_
 have hd := hS.hand [] [0] rfl rfl
 refine m_stp [8, 0, 1, 2, 3] [(0, [], .string ⟨⟨name_⟩⟩), (1, [], .bool inherited), (2, [], .string ⟨⟨first⟩⟩), (3, [], .string ⟨⟨all_⟩⟩)] H rfl rfl rfl rfl (o_alloc [.string ⟨⟨[]⟩⟩, .bool false, .int .u8 0, .string ⟨⟨[]⟩⟩, .int .i64 0, .int .u8 0, .int .u8 0, .int .u8 0, .int .u8 0, .slice none 0 0, .slice none 0 0, .bool false] (z := .agg ⟨[.string ⟨⟨[]⟩⟩, .bool false, .int .u8 0, .string ⟨⟨[]⟩⟩, .int .i64 0, .int .u8 0, .int .u8 0, .int .u8 0, .int .u8 0, .slice none 0 0, .slice none 0 0, .bool false]⟩) hd (by kernel_rfl) rfl) (fun _ => rfl) fun _ wd2 v H3 hq => ?_
 clear H hd
 obtain ⟨b1, rfl, hq⟩ := hq
 replace hS : SH M X w [Ent.blk b1 [.string ⟨⟨[]⟩⟩, .bool false, .int .u8 0, .string ⟨⟨[]⟩⟩, .int .i64 0, .int .u8 0, .int .u8 0, .int .u8 0, .int .u8 0, .slice none 0 0, .slice none 0 0, .bool false], gE0] _ := hS.join [] [0] rfl rfl hq
 clear hq
 refine wl_end rfl ?_
 refine w_seq ?_
 refine wl_start ?_
 obtain ⟨y4, hy4, hm⟩ := letE hm
 refine wl_batch 0 5 [(.agg ⟨[.int .u8 y4.Kind, .string ⟨⟨y4.Word⟩⟩, .int .i64 y4.Num, .int .u8 y4.Color.Red, .int .u8 y4.Color.Green, .int .u8 y4.Color.Blue, .int .u8 y4.Color.Alpha]⟩)] [8, 9, 10, 12, 13] [(8, [], .pointer (some ⟨b1, 0, none⟩)), (9, [], .string ⟨⟨name_⟩⟩), (10, [], .bool inherited), (12, [], .agg ⟨[.int .u8 y4.Kind, .string ⟨⟨y4.Word⟩⟩, .int .i64 y4.Num, .int .u8 y4.Color.Red, .int .u8 y4.Color.Green, .int .u8 y4.Color.Blue, .int .u8 y4.Color.Alpha]⟩), (13, [], .string ⟨⟨all_⟩⟩)] [fun wz => RetB Tryd.prog 43 ⟨[.string ⟨⟨first⟩⟩]⟩ (.agg ⟨[.int .u8 y4.Kind, .string ⟨⟨y4.Word⟩⟩, .int .i64 y4.Num, .int .u8 y4.Color.Red, .int .u8 y4.Color.Green, .int .u8 y4.Color.Blue, .int .u8 y4.Color.Alpha]⟩) wz] H3 (by decide) (by subst hy4; kernel_rfl) ⟨((by rw [hy4]; exact (props_word_ok _).b)), trivial⟩ fun _ wd5 H6 hb => ?_
 clear H3
 replace hS := hS.below hb
 clear hb
 obtain ⟨y7, hy7, hm⟩ := bindE hm
 have hd := hS.hand [1] [0, 1] rfl rfl
 refine m_stp [14, 8, 9, 10, 12] [(8, [], .pointer (some ⟨b1, 0, none⟩)), (9, [], .string ⟨⟨name_⟩⟩), (10, [], .bool inherited), (12, [], .agg ⟨[.int .u8 y4.Kind, .string ⟨⟨y4.Word⟩⟩, .int .i64 y4.Num, .int .u8 y4.Color.Red, .int .u8 y4.Color.Green, .int .u8 y4.Color.Blue, .int .u8 y4.Color.Alpha]⟩)] H6 rfl rfl rfl rfl (o_callx H6 rfl rfl (strings_Fields_ok m _ _ hy7 _ _ hd)) (fun _ => rfl) fun _ wd10 v H11 hq => ?_
 clear H6 hd
 obtain ⟨g8, rfl, hq⟩ := hq
 replace hS : SH M X w [Ent.own 9 tS y7 g8, Ent.blk b1 [.string ⟨⟨[]⟩⟩, .bool false, .int .u8 0, .string ⟨⟨[]⟩⟩, .int .i64 0, .int .u8 0, .int .u8 0, .int .u8 0, .int .u8 0, .slice none 0 0, .slice none 0 0, .bool false], gE0] _ := hS.join [1] [0, 1] rfl rfl hq
 clear hq
 refine wl_batch 6 7 [] [8, 15] [(8, [], .pointer (some ⟨b1, 0, none⟩)), (15, [], .agg ⟨[.string ⟨⟨name_⟩⟩, .bool inherited, .int .u8 y4.Kind, .string ⟨⟨y4.Word⟩⟩, .int .i64 y4.Num, .int .u8 y4.Color.Red, .int .u8 y4.Color.Green, .int .u8 y4.Color.Blue, .int .u8 y4.Color.Alpha, .slice g8.a y7.length g8.c, .slice none 0 0, .bool false]⟩)] [] H11 (by decide) (by kernel_rfl) trivial fun _ wd12 H13 hb => ?_
 clear H11
 replace hS := hS.below hb
 clear hb
 have hd := hS.hand [1] [0, 2] rfl rfl
 refine m_stp0 [8] [(8, [], .pointer (some ⟨b1, 0, none⟩))] H13 rfl rfl rfl (o_store [.string ⟨⟨name_⟩⟩, .bool inherited, .int .u8 y4.Kind, .string ⟨⟨y4.Word⟩⟩, .int .i64 y4.Num, .int .u8 y4.Color.Red, .int .u8 y4.Color.Green, .int .u8 y4.Color.Blue, .int .u8 y4.Color.Alpha, .slice g8.a y7.length g8.c, .slice none 0 0, .bool false] H13 hd rfl rfl (by kernel_rfl) rfl rfl rfl) rfl fun _ wd14 H15 hq => ?_
 clear H13 hd
 obtain ⟨_, hq⟩ := hq
 replace hS : SH M X w [Ent.blk b1 [.string ⟨⟨name_⟩⟩, .bool inherited, .int .u8 y4.Kind, .string ⟨⟨y4.Word⟩⟩, .int .i64 y4.Num, .int .u8 y4.Color.Red, .int .u8 y4.Color.Green, .int .u8 y4.Color.Blue, .int .u8 y4.Color.Alpha, .slice g8.a y7.length g8.c, .slice none 0 0, .bool false], Ent.own 9 tS y7 g8, gE0] _ := hS.join [1] [0, 2] rfl rfl hq
 clear hq
 refine wl_end rfl ?_
 refine w_ret ?_
 obtain rfl := someE hm
 replace hS : SH M X w [Ent.own 5 (tI .u8) ([] : List Int) (.nil), Ent.blk b1 [.string ⟨⟨name_⟩⟩, .bool inherited, .int .u8 y4.Kind, .string ⟨⟨y4.Word⟩⟩, .int .i64 y4.Num, .int .u8 y4.Color.Red, .int .u8 y4.Color.Green, .int .u8 y4.Color.Blue, .int .u8 y4.Color.Alpha, .slice g8.a y7.length g8.c, .slice none 0 0, .bool false], Ent.own 9 tS y7 g8, gE0] _ := hS.addNil 5 (tI .u8)
 exact retR1 H15 rfl (oneRes_agg rfl (hS.bk 1 rfl) Tryd.underlying68 rfl (by kernel_rfl)) ⟨_, rfl, g8, Gh.nil, rfl, (hS.sel [2, 0] rfl)⟩
theorem props_words_ok  (m : Nat) (name_ : Str) (inherited : Bool) (first : Str) (all_ : Str) (r : TProp) (hm : props_words m name_ inherited first all_ = some r) (M : Av) (w : World) (hS : S0 M [gE0] w) : DoesX Tryd.prog 45 ⟨[.string ⟨⟨name_⟩⟩, .bool inherited, .string ⟨⟨first⟩⟩, .string ⟨⟨all_⟩⟩]⟩ w (fun v w' => ∃ (g901 : Gh) (g903 : Gh), v = .agg ⟨[.string ⟨⟨r.Name⟩⟩, .bool r.Inherited, .int .u8 r.Initial.Kind, .string ⟨⟨r.Initial.Word⟩⟩, .int .i64 r.Initial.Num, .int .u8 r.Initial.Color.Red, .int .u8 r.Initial.Color.Green, .int .u8 r.Initial.Color.Blue, .int .u8 r.Initial.Color.Alpha, .slice g901.a r.Words.length g901.c, .slice g903.a r.Kinds.length g903.c, .bool r.Least]⟩ ∧ SH M (fpl [gE0]) w [Ent.own 9 tS r.Words g901, Ent.own 5 (tI .u8) r.Kinds g903] w') := ⟨Tryd.call45 _, props_words_w M m   name_ inherited first all_ r hm w hS⟩

def props_length (m : Nat) (name_ : Str) (inherited : Bool) (first : TVal) (all_ : Str) (least : Bool) (more : List Int) : Option (TProp) :=
  Option.bind (strings_Fields m all_) fun y8 =>
  chk (ln ([2, 3, 4] : List Int) + ln more ≤ 1099511627776) <|
  lt (([2, 3, 4] : List Int) ++ more) fun q14 =>
  some (TProp.mk name_ inherited first y8 q14 least)
theorem props_length_w {g_more : Gh} (M : Av) (m : Nat) (name_ : Str) (inherited : Bool) (first : TVal) (all_ : Str) (least : Bool) (more : List Int) (r : TProp) (hm : props_length m name_ inherited first all_ least more = some r) (w : World) (hS : S0 M [Ent.im (tI .u8) more g_more, gE0] w) : Calls Tryd.prog 46 ⟨[.string ⟨⟨name_⟩⟩, .bool inherited, .agg ⟨[.int .u8 first.Kind, .string ⟨⟨first.Word⟩⟩, .int .i64 first.Num, .int .u8 first.Color.Red, .int .u8 first.Color.Green, .int .u8 first.Color.Blue, .int .u8 first.Color.Alpha]⟩, .string ⟨⟨all_⟩⟩, .bool least, .slice g_more.a more.length g_more.c]⟩ w (fun e w' => ∃ v, e = .returned v ∧ ∃ (g901 : Gh) (g903 : Gh), v = .agg ⟨[.string ⟨⟨r.Name⟩⟩, .bool r.Inherited, .int .u8 r.Initial.Kind, .string ⟨⟨r.Initial.Word⟩⟩, .int .i64 r.Initial.Num, .int .u8 r.Initial.Color.Red, .int .u8 r.Initial.Color.Green, .int .u8 r.Initial.Color.Blue, .int .u8 r.Initial.Color.Alpha, .slice g901.a r.Words.length g901.c, .slice g903.a r.Kinds.length g903.c, .bool r.Least]⟩ ∧ SH M (fpl [Ent.im (tI .u8) more g_more, gE0]) w [Ent.own 9 tS r.Words g901, Ent.own 5 (tI .u8) r.Kinds g903] w') := by
 rw [props_length] at hm
 have hS0 : SH M (fpl [Ent.im (tI .u8) more g_more, gE0]) w [Ent.im (tI .u8) more g_more, gE0] w := hS
 generalize hX : fpl [Ent.im (tI .u8) more g_more, gE0] = X at hS0 ⊢
 clear hS hX
 have hS := hS0
 clear hS0
 refine calls_entryP Tryd.func46 rfl Tryd.ntmps46 rfl fun _ H => ?_
 refine w_seq ?_
 refine wl_start ?_
 have hd := hS.hand [] [0, 1] rfl rfl
 refine m_stp [8, 0, 1, 3, 4, 5] [(0, [], .string ⟨⟨name_⟩⟩), (1, [], .bool inherited), (3, [], .string ⟨⟨all_⟩⟩), (4, [], .bool least), (5, [], .slice g_more.a more.length g_more.c)] H rfl rfl rfl rfl (o_box [.int .u8 first.Kind, .string ⟨⟨first.Word⟩⟩, .int .i64 first.Num, .int .u8 first.Color.Red, .int .u8 first.Color.Green, .int .u8 first.Color.Blue, .int .u8 first.Color.Alpha] H hd rfl rfl) (fun _ => rfl) fun _ wd2 v H3 hq => ?_
 clear H hd
 obtain ⟨b1, rfl, hq⟩ := hq
 replace hS : SH M X w [Ent.blk b1 [.int .u8 first.Kind, .string ⟨⟨first.Word⟩⟩, .int .i64 first.Num, .int .u8 first.Color.Red, .int .u8 first.Color.Green, .int .u8 first.Color.Blue, .int .u8 first.Color.Alpha], Ent.im (tI .u8) more g_more, gE0] _ := hS.join [] [0, 1] rfl rfl hq
 clear hq
 have hd := hS.hand [] [0, 1, 2] rfl rfl
 refine m_stp [12, 0, 1, 3, 4, 5, 8] [(0, [], .string ⟨⟨name_⟩⟩), (1, [], .bool inherited), (3, [], .string ⟨⟨all_⟩⟩), (4, [], .bool least), (5, [], .slice g_more.a more.length g_more.c), (8, [], .pointer (some ⟨b1, 0, none⟩))] H3 rfl rfl rfl rfl (o_alloc [.string ⟨⟨[]⟩⟩, .bool false, .int .u8 0, .string ⟨⟨[]⟩⟩, .int .i64 0, .int .u8 0, .int .u8 0, .int .u8 0, .int .u8 0, .slice none 0 0, .slice none 0 0, .bool false] (z := .agg ⟨[.string ⟨⟨[]⟩⟩, .bool false, .int .u8 0, .string ⟨⟨[]⟩⟩, .int .i64 0, .int .u8 0, .int .u8 0, .int .u8 0, .int .u8 0, .slice none 0 0, .slice none 0 0, .bool false]⟩) hd (by kernel_rfl) rfl) (fun _ => rfl) fun _ wd5 v H6 hq => ?_
 clear H3 hd
 obtain ⟨b4, rfl, hq⟩ := hq
 replace hS : SH M X w [Ent.blk b4 [.string ⟨⟨[]⟩⟩, .bool false, .int .u8 0, .string ⟨⟨[]⟩⟩, .int .i64 0, .int .u8 0, .int .u8 0, .int .u8 0, .int .u8 0, .slice none 0 0, .slice none 0 0, .bool false], Ent.blk b1 [.int .u8 first.Kind, .string ⟨⟨first.Word⟩⟩, .int .i64 first.Num, .int .u8 first.Color.Red, .int .u8 first.Color.Green, .int .u8 first.Color.Blue, .int .u8 first.Color.Alpha], Ent.im (tI .u8) more g_more, gE0] _ := hS.join [] [0, 1, 2] rfl rfl hq
 clear hq
 refine wl_end rfl ?_
 obtain ⟨y8, hy8, hm⟩ := bindE hm
 obtain ⟨ho13, hm⟩ := chkE hm
 obtain ⟨q14, hq14, hm⟩ := letE hm
 refine s_drawS (base := [(0, [], .string ⟨⟨name_⟩⟩), (1, [], .bool inherited), (3, [], .string ⟨⟨all_⟩⟩), (4, [], .bool least), (5, [], .slice g_more.a more.length g_more.c), (8, [], .pointer (some ⟨b1, 0, none⟩)), (12, [], .pointer (some ⟨b4, 0, none⟩))]) (L := [Ent.blk b4 [.string ⟨⟨[]⟩⟩, .bool false, .int .u8 0, .string ⟨⟨[]⟩⟩, .int .i64 0, .int .u8 0, .int .u8 0, .int .u8 0, .int .u8 0, .slice none 0 0, .slice none 0 0, .bool false], Ent.blk b1 [.int .u8 first.Kind, .string ⟨⟨first.Word⟩⟩, .int .i64 first.Num, .int .u8 first.Color.Red, .int .u8 first.Color.Green, .int .u8 first.Color.Blue, .int .u8 first.Color.Alpha], Ent.im (tI .u8) more g_more, gE0]) 11 4 (fun yg7 => [.string ⟨⟨name_⟩⟩, .bool inherited, .agg ⟨[.int .u8 first.Kind, .string ⟨⟨first.Word⟩⟩, .int .i64 first.Num, .int .u8 first.Color.Red, .int .u8 first.Color.Green, .int .u8 first.Color.Blue, .int .u8 first.Color.Alpha]⟩, .string ⟨⟨all_⟩⟩, .slice (yg7 4 0).a y8.length (yg7 4 0).c, .slice (yg7 5 0).a 3 (yg7 5 0).c, .slice g_more.a more.length g_more.c, .slice (yg7 7 0).a q14.length (yg7 7 0).c, .bool least, .agg ⟨[.string ⟨⟨name_⟩⟩, .bool inherited, .int .u8 first.Kind, .string ⟨⟨first.Word⟩⟩, .int .i64 first.Num, .int .u8 first.Color.Red, .int .u8 first.Color.Green, .int .u8 first.Color.Blue, .int .u8 first.Color.Alpha, .slice (yg7 4 0).a y8.length (yg7 4 0).c, .slice (yg7 7 0).a q14.length (yg7 7 0).c, .bool least]⟩, undef]) (fun yg7 => [[], [], [], [], [Ent.own 9 tS y8 (yg7 4 0)], [Ent.own 5 (tI .u8) ([2, 3, 4] : List Int) (yg7 5 0)], [], [Ent.own 5 (tI .u8) q14 (yg7 7 0)], [], [], [Ent.blk b4 [.string ⟨⟨name_⟩⟩, .bool inherited, .int .u8 first.Kind, .string ⟨⟨first.Word⟩⟩, .int .i64 first.Num, .int .u8 first.Color.Red, .int .u8 first.Color.Green, .int .u8 first.Color.Blue, .int .u8 first.Color.Alpha, .slice (yg7 4 0).a y8.length (yg7 4 0).c, .slice (yg7 7 0).a q14.length (yg7 7 0).c, .bool least]]]) [[], [], [12], [], [14], [], [13], [5, 13], [], [4, 7], [4, 7, 11]] [[], [], [], [], [], [], [], [5], [], [], [11]] [[0], [1], [2], [3], [3, 4], [5], [6], [5, 6, 7], [8], [0, 1, 2, 3, 4, 5, 6, 7, 8, 9], [0, 1, 2, 3, 4, 5, 6, 7, 8, 9, 10]] [] (FrG.keep (ks := [0, 1, 3, 4, 5, 8, 12]) H6 (by kernel_rfl)) (fun _ _ h => by cases h) (by kernel_rfl) hS (by kernel_rfl) rfl rfl (by kernel_rfl) (by kernel_rfl) (by kernel_rfl) (gd_none (by kernel_rfl) _ _) ?hloc_yg7 ?hstep_yg7 fun _ wd16 yg7 H17 hv hS => ?hK_yg7
 case hloc_yg7 => exact ⟨(fun _ _ _ _ => ⟨rfl, rfl⟩), (fun _ _ _ _ => ⟨rfl, rfl⟩), (fun _ _ _ _ => ⟨rfl, rfl⟩), (fun _ _ _ _ => ⟨rfl, rfl⟩), (fun yg7 i g hi => by have h4 : updC yg7 i g 4 = yg7 4 := updC_out hi rfl; exact ⟨(show (.slice ((updC yg7 i g) 4 0).a y8.length ((updC yg7 i g) 4 0).c : Value) = .slice (yg7 4 0).a y8.length (yg7 4 0).c by simp only [h4]), (show ([Ent.own 9 tS y8 ((updC yg7 i g) 4 0)] : List Ent) = [Ent.own 9 tS y8 (yg7 4 0)] by simp only [h4])⟩), (fun yg7 i g hi => by have h5 : updC yg7 i g 5 = yg7 5 := updC_out hi rfl; exact ⟨(show (.slice ((updC yg7 i g) 5 0).a 3 ((updC yg7 i g) 5 0).c : Value) = .slice (yg7 5 0).a 3 (yg7 5 0).c by simp only [h5]), (show ([Ent.own 5 (tI .u8) ([2, 3, 4] : List Int) ((updC yg7 i g) 5 0)] : List Ent) = [Ent.own 5 (tI .u8) ([2, 3, 4] : List Int) (yg7 5 0)] by simp only [h5])⟩), (fun _ _ _ _ => ⟨rfl, rfl⟩), (fun yg7 i g hi => by have h7 : updC yg7 i g 7 = yg7 7 := updC_out hi rfl; exact ⟨(show (.slice ((updC yg7 i g) 7 0).a q14.length ((updC yg7 i g) 7 0).c : Value) = .slice (yg7 7 0).a q14.length (yg7 7 0).c by simp only [h7]), (show ([Ent.own 5 (tI .u8) q14 ((updC yg7 i g) 7 0)] : List Ent) = [Ent.own 5 (tI .u8) q14 (yg7 7 0)] by simp only [h7])⟩), (fun _ _ _ _ => ⟨rfl, rfl⟩), (fun yg7 i g hi => by have h4 : updC yg7 i g 4 = yg7 4 := updC_out hi rfl; have h7 : updC yg7 i g 7 = yg7 7 := updC_out hi rfl; exact ⟨(show (.agg ⟨[.string ⟨⟨name_⟩⟩, .bool inherited, .int .u8 first.Kind, .string ⟨⟨first.Word⟩⟩, .int .i64 first.Num, .int .u8 first.Color.Red, .int .u8 first.Color.Green, .int .u8 first.Color.Blue, .int .u8 first.Color.Alpha, .slice ((updC yg7 i g) 4 0).a y8.length ((updC yg7 i g) 4 0).c, .slice ((updC yg7 i g) 7 0).a q14.length ((updC yg7 i g) 7 0).c, .bool least]⟩ : Value) = .agg ⟨[.string ⟨⟨name_⟩⟩, .bool inherited, .int .u8 first.Kind, .string ⟨⟨first.Word⟩⟩, .int .i64 first.Num, .int .u8 first.Color.Red, .int .u8 first.Color.Green, .int .u8 first.Color.Blue, .int .u8 first.Color.Alpha, .slice (yg7 4 0).a y8.length (yg7 4 0).c, .slice (yg7 7 0).a q14.length (yg7 7 0).c, .bool least]⟩ by simp only [h4, h7]), (show ([] : List Ent) = [] by simp only [])⟩), (fun yg7 i g hi => by have h4 : updC yg7 i g 4 = yg7 4 := updC_out hi rfl; have h7 : updC yg7 i g 7 = yg7 7 := updC_out hi rfl; exact ⟨(show (undef : Value) = undef by simp only []), (show ([Ent.blk b4 [.string ⟨⟨name_⟩⟩, .bool inherited, .int .u8 first.Kind, .string ⟨⟨first.Word⟩⟩, .int .i64 first.Num, .int .u8 first.Color.Red, .int .u8 first.Color.Green, .int .u8 first.Color.Blue, .int .u8 first.Color.Alpha, .slice ((updC yg7 i g) 4 0).a y8.length ((updC yg7 i g) 4 0).c, .slice ((updC yg7 i g) 7 0).a q14.length ((updC yg7 i g) 7 0).c, .bool least]] : List Ent) = [Ent.blk b4 [.string ⟨⟨name_⟩⟩, .bool inherited, .int .u8 first.Kind, .string ⟨⟨first.Word⟩⟩, .int .i64 first.Num, .int .u8 first.Color.Red, .int .u8 first.Color.Green, .int .u8 first.Color.Blue, .int .u8 first.Color.Alpha, .slice (yg7 4 0).a y8.length (yg7 4 0).c, .slice (yg7 7 0).a q14.length (yg7 7 0).c, .bool least]] by simp only [h4, h7])⟩), trivial⟩
 case hstep_yg7 =>
  refine ⟨?_, ?_, ?_, ?_, ?_, ?_, ?_, ?_, ?_, ?_, ?_, trivial⟩
  ·intro o ho a w yg7 M Hb hv hO hS0
   obtain rfl := Option.some.inj ho
   have H : Fr 23 ([] ++ [(0, [], .string ⟨⟨name_⟩⟩), (1, [], .bool inherited), (3, [], .string ⟨⟨all_⟩⟩), (4, [], .bool least), (5, [], .slice g_more.a more.length g_more.c), (8, [], .pointer (some ⟨b1, 0, none⟩)), (12, [], .pointer (some ⟨b4, 0, none⟩))]) _ := Hb
   obtain ⟨X, hX⟩ : ∃ X, X = fpl [] := ⟨_, rfl⟩
   have hS : SH M X w [] w := by rw [hX]; exact hS0
   refine Stp.mono (o_evs [] (.string ⟨⟨name_⟩⟩) none [] H rfl (by kernel_rfl) (fun q e => by cases e)) ?_
   rintro v w2 ⟨rfl, hq⟩
   replace hS : SH M X w [] _ := hS.below hq.below
   rw [hX] at hS
   exact ⟨gL [], fun _ _ => rfl, hS.sel [] rfl⟩
  ·intro o ho a w yg7 M Hb hv hO hS0
   obtain rfl := Option.some.inj ho
   have H : Fr 23 ([] ++ [(0, [], .string ⟨⟨name_⟩⟩), (1, [], .bool inherited), (3, [], .string ⟨⟨all_⟩⟩), (4, [], .bool least), (5, [], .slice g_more.a more.length g_more.c), (8, [], .pointer (some ⟨b1, 0, none⟩)), (12, [], .pointer (some ⟨b4, 0, none⟩))]) _ := Hb
   obtain ⟨X, hX⟩ : ∃ X, X = fpl [] := ⟨_, rfl⟩
   have hS : SH M X w [] w := by rw [hX]; exact hS0
   refine Stp.mono (o_evs [] (.bool inherited) none [] H rfl (by kernel_rfl) (fun q e => by cases e)) ?_
   rintro v w2 ⟨rfl, hq⟩
   replace hS : SH M X w [] _ := hS.below hq.below
   rw [hX] at hS
   exact ⟨gL [], fun _ _ => rfl, hS.sel [] rfl⟩
  ·intro o ho a w yg7 M Hb hv hO hS0
   obtain rfl := Option.some.inj ho
   have H : Fr 23 ([] ++ [(0, [], .string ⟨⟨name_⟩⟩), (1, [], .bool inherited), (3, [], .string ⟨⟨all_⟩⟩), (4, [], .bool least), (5, [], .slice g_more.a more.length g_more.c), (8, [], .pointer (some ⟨b1, 0, none⟩)), (12, [], .pointer (some ⟨b4, 0, none⟩))]) _ := Hb
   obtain ⟨X, hX⟩ : ∃ X, X = fpl [Ent.blk b1 [.int .u8 first.Kind, .string ⟨⟨first.Word⟩⟩, .int .i64 first.Num, .int .u8 first.Color.Red, .int .u8 first.Color.Green, .int .u8 first.Color.Blue, .int .u8 first.Color.Alpha]] := ⟨_, rfl⟩
   have hS : SH M X w [Ent.blk b1 [.int .u8 first.Kind, .string ⟨⟨first.Word⟩⟩, .int .i64 first.Num, .int .u8 first.Color.Red, .int .u8 first.Color.Green, .int .u8 first.Color.Blue, .int .u8 first.Color.Alpha]] w := by rw [hX]; exact hS0
   refine Stp.mono (o_evs [(.agg ⟨[.int .u8 first.Kind, .string ⟨⟨first.Word⟩⟩, .int .i64 first.Num, .int .u8 first.Color.Red, .int .u8 first.Color.Green, .int .u8 first.Color.Blue, .int .u8 first.Color.Alpha]⟩)] (.agg ⟨[.int .u8 first.Kind, .string ⟨⟨first.Word⟩⟩, .int .i64 first.Num, .int .u8 first.Color.Red, .int .u8 first.Color.Green, .int .u8 first.Color.Blue, .int .u8 first.Color.Alpha]⟩) (some (fun wz => V.atN b1 0 [.int .u8 first.Kind, .string ⟨⟨first.Word⟩⟩, .int .i64 first.Num, .int .u8 first.Color.Red, .int .u8 first.Color.Green, .int .u8 first.Color.Blue, .int .u8 first.Color.Alpha] 0 wz)) [] H rfl (by kernel_rfl) (fun q e => by cases e; exact ((hS.bk 0 rfl).atD rfl))) ?_
   rintro v w2 ⟨rfl, hq⟩
   replace hS : SH M X w [Ent.blk b1 [.int .u8 first.Kind, .string ⟨⟨first.Word⟩⟩, .int .i64 first.Num, .int .u8 first.Color.Red, .int .u8 first.Color.Green, .int .u8 first.Color.Blue, .int .u8 first.Color.Alpha]] _ := hS.below hq.below
   rw [hX] at hS
   exact ⟨gL [], fun _ _ => rfl, hS.sel [0] rfl⟩
  ·intro o ho a w yg7 M Hb hv hO hS0
   obtain rfl := Option.some.inj ho
   have H : Fr 23 ([] ++ [(0, [], .string ⟨⟨name_⟩⟩), (1, [], .bool inherited), (3, [], .string ⟨⟨all_⟩⟩), (4, [], .bool least), (5, [], .slice g_more.a more.length g_more.c), (8, [], .pointer (some ⟨b1, 0, none⟩)), (12, [], .pointer (some ⟨b4, 0, none⟩))]) _ := Hb
   obtain ⟨X, hX⟩ : ∃ X, X = fpl [] := ⟨_, rfl⟩
   have hS : SH M X w [] w := by rw [hX]; exact hS0
   refine Stp.mono (o_evs [] (.string ⟨⟨all_⟩⟩) none [] H rfl (by kernel_rfl) (fun q e => by cases e)) ?_
   rintro v w2 ⟨rfl, hq⟩
   replace hS : SH M X w [] _ := hS.below hq.below
   rw [hX] at hS
   exact ⟨gL [], fun _ _ => rfl, hS.sel [] rfl⟩
  ·intro o ho a w yg7 M Hb hv hO hS0
   obtain rfl := Option.some.inj ho
   have H : Fr 23 ([(16, [], .string ⟨⟨all_⟩⟩)] ++ [(0, [], .string ⟨⟨name_⟩⟩), (1, [], .bool inherited), (3, [], .string ⟨⟨all_⟩⟩), (4, [], .bool least), (5, [], .slice g_more.a more.length g_more.c), (8, [], .pointer (some ⟨b1, 0, none⟩)), (12, [], .pointer (some ⟨b4, 0, none⟩))]) _ := (Hb).add (hv 3 (by decide) (by decide) 16 rfl)
   obtain ⟨X, hX⟩ : ∃ X, X = fpl [gE0] := ⟨_, rfl⟩
   have hS : SH M X w [gE0] w := by rw [hX]; exact hS0
   have hd := hS.hand [0] [0] rfl rfl
   refine Stp.mono (o_callx H rfl rfl (strings_Fields_ok m _ _ hy8 _ _ hd)) ?_
   rintro v w2 hq
   obtain ⟨g9, rfl, hq⟩ := hq
   replace hS : SH M X w [Ent.own 9 tS y8 g9, gE0] _ := hS.join [0] [0] rfl rfl hq
   clear hq
   rw [hX] at hS
   exact ⟨gL [g9], fun _ _ => rfl, hS.sel [0, 1] rfl⟩
  ·intro o ho a w yg7 M Hb hv hO hS0
   obtain rfl := Option.some.inj ho
   have H : Fr 23 ([] ++ [(0, [], .string ⟨⟨name_⟩⟩), (1, [], .bool inherited), (3, [], .string ⟨⟨all_⟩⟩), (4, [], .bool least), (5, [], .slice g_more.a more.length g_more.c), (8, [], .pointer (some ⟨b1, 0, none⟩)), (12, [], .pointer (some ⟨b4, 0, none⟩))]) _ := Hb
   obtain ⟨X, hX⟩ : ∃ X, X = fpl [] := ⟨_, rfl⟩
   have hS : SH M X w [] w := by rw [hX]; exact hS0
   have hd := hS.hand [] [] rfl rfl
   refine Stp.mono (o_lit (T := (tI .u8)) (E := 5) (zv := .int .u8 0) [.int .u8 2, .int .u8 3, .int .u8 4] ([2, 3, 4] : List Int) [gL [], gL [], gL []] _ H hd rfl (by kernel_rfl) (by kernel_rfl) (by kernel_rfl) (by kernel_rfl) (by kernel_rfl) (by kernel_rfl) (by kernel_rfl) rfl (InnL.cons trivial (InnL.cons trivial (InnL.cons trivial InnL.nil)))) ?_
   rintro v w2 hq
   obtain ⟨g11, rfl, hq⟩ := hq
   replace hS : SH M X w [Ent.own 5 (tI .u8) ([2, 3, 4] : List Int) g11] _ := hS.join [] [] rfl rfl hq
   clear hq
   rw [hX] at hS
   exact ⟨gL [g11], fun _ _ => rfl, hS.sel [0] rfl⟩
  ·intro o ho a w yg7 M Hb hv hO hS0
   obtain rfl := Option.some.inj ho
   have H : Fr 23 ([] ++ [(0, [], .string ⟨⟨name_⟩⟩), (1, [], .bool inherited), (3, [], .string ⟨⟨all_⟩⟩), (4, [], .bool least), (5, [], .slice g_more.a more.length g_more.c), (8, [], .pointer (some ⟨b1, 0, none⟩)), (12, [], .pointer (some ⟨b4, 0, none⟩))]) _ := Hb
   obtain ⟨X, hX⟩ : ∃ X, X = fpl [Ent.im (tI .u8) more g_more] := ⟨_, rfl⟩
   have hS : SH M X w [Ent.im (tI .u8) more g_more] w := by rw [hX]; exact hS0
   refine Stp.mono (o_evs [] (.slice g_more.a more.length g_more.c) none [] H rfl (by kernel_rfl) (fun q e => by cases e)) ?_
   rintro v w2 ⟨rfl, hq⟩
   replace hS : SH M X w [Ent.im (tI .u8) more g_more] _ := hS.below hq.below
   rw [hX] at hS
   exact ⟨gL [], fun _ _ => rfl, hS.sel [0] rfl⟩
  ·intro o ho a w yg7 M Hb hv hO hS0
   obtain rfl := Option.some.inj ho
   have H : Fr 23 ([(19, [], .slice g_more.a more.length g_more.c), (18, [], .slice (yg7 5 0).a 3 (yg7 5 0).c)] ++ [(0, [], .string ⟨⟨name_⟩⟩), (1, [], .bool inherited), (3, [], .string ⟨⟨all_⟩⟩), (4, [], .bool least), (5, [], .slice g_more.a more.length g_more.c), (8, [], .pointer (some ⟨b1, 0, none⟩)), (12, [], .pointer (some ⟨b4, 0, none⟩))]) _ := ((Hb).add (hv 5 (by decide) (by decide) 18 rfl)).add (hv 6 (by decide) (by decide) 19 rfl)
   obtain ⟨X, hX⟩ : ∃ X, X = fpl [Ent.own 5 (tI .u8) ([2, 3, 4] : List Int) (yg7 5 0), Ent.im (tI .u8) more g_more] := ⟨_, rfl⟩
   have hS : SH M X w [Ent.own 5 (tI .u8) ([2, 3, 4] : List Int) (yg7 5 0), Ent.im (tI .u8) more g_more] w := by rw [hX]; exact hS0
   have hd := hS.hand [0, 1] [1] rfl rfl
   refine Stp.mono (o_app (T := (tI .u8)) (zv := .int .u8 0) (g1 := (yg7 5 0)) (g2 := g_more) (l1 := ([2, 3, 4] : List Int)) (l2 := more) q14 hq14.symm H hd rfl rfl rfl rfl rfl rfl rfl (by kernel_rfl) (by kernel_rfl) rfl rfl ho13) ?_
   rintro v w2 hq
   obtain ⟨g15, rfl, hq⟩ := hq
   replace hS : SH M X w [Ent.own 5 (tI .u8) q14 g15, Ent.im (tI .u8) more g_more] _ := hS.join [0, 1] [1] rfl rfl hq
   clear hq
   rw [hX] at hS
   exact ⟨gL [g15], fun _ _ => rfl, hS.sel [0, 1] rfl⟩
  ·intro o ho a w yg7 M Hb hv hO hS0
   obtain rfl := Option.some.inj ho
   have H : Fr 23 ([] ++ [(0, [], .string ⟨⟨name_⟩⟩), (1, [], .bool inherited), (3, [], .string ⟨⟨all_⟩⟩), (4, [], .bool least), (5, [], .slice g_more.a more.length g_more.c), (8, [], .pointer (some ⟨b1, 0, none⟩)), (12, [], .pointer (some ⟨b4, 0, none⟩))]) _ := Hb
   obtain ⟨X, hX⟩ : ∃ X, X = fpl [] := ⟨_, rfl⟩
   have hS : SH M X w [] w := by rw [hX]; exact hS0
   refine Stp.mono (o_evs [] (.bool least) none [] H rfl (by kernel_rfl) (fun q e => by cases e)) ?_
   rintro v w2 ⟨rfl, hq⟩
   replace hS : SH M X w [] _ := hS.below hq.below
   rw [hX] at hS
   exact ⟨gL [], fun _ _ => rfl, hS.sel [] rfl⟩
  ·intro o ho a w yg7 M Hb hv hO hS0
   obtain rfl := Option.some.inj ho
   have H : Fr 23 ([(21, [], .bool least), (20, [], .slice (yg7 7 0).a q14.length (yg7 7 0).c), (17, [], .slice (yg7 4 0).a y8.length (yg7 4 0).c), (15, [], .agg ⟨[.int .u8 first.Kind, .string ⟨⟨first.Word⟩⟩, .int .i64 first.Num, .int .u8 first.Color.Red, .int .u8 first.Color.Green, .int .u8 first.Color.Blue, .int .u8 first.Color.Alpha]⟩), (14, [], .bool inherited), (13, [], .string ⟨⟨name_⟩⟩)] ++ [(0, [], .string ⟨⟨name_⟩⟩), (1, [], .bool inherited), (3, [], .string ⟨⟨all_⟩⟩), (4, [], .bool least), (5, [], .slice g_more.a more.length g_more.c), (8, [], .pointer (some ⟨b1, 0, none⟩)), (12, [], .pointer (some ⟨b4, 0, none⟩))]) _ := ((((((Hb).add (hv 0 (by decide) (by decide) 13 rfl)).add (hv 1 (by decide) (by decide) 14 rfl)).add (hv 2 (by decide) (by decide) 15 rfl)).add (hv 4 (by decide) (by decide) 17 rfl)).add (hv 7 (by decide) (by decide) 20 rfl)).add (hv 8 (by decide) (by decide) 21 rfl)
   obtain ⟨X, hX⟩ : ∃ X, X = fpl [Ent.own 9 tS y8 (yg7 4 0), Ent.own 5 (tI .u8) q14 (yg7 7 0)] := ⟨_, rfl⟩
   have hS : SH M X w [Ent.own 9 tS y8 (yg7 4 0), Ent.own 5 (tI .u8) q14 (yg7 7 0)] w := by rw [hX]; exact hS0
   refine Stp.mono (o_evs [] (.agg ⟨[.string ⟨⟨name_⟩⟩, .bool inherited, .int .u8 first.Kind, .string ⟨⟨first.Word⟩⟩, .int .i64 first.Num, .int .u8 first.Color.Red, .int .u8 first.Color.Green, .int .u8 first.Color.Blue, .int .u8 first.Color.Alpha, .slice (yg7 4 0).a y8.length (yg7 4 0).c, .slice (yg7 7 0).a q14.length (yg7 7 0).c, .bool least]⟩) none [] H rfl (by kernel_rfl) (fun q e => by cases e)) ?_
   rintro v w2 ⟨rfl, hq⟩
   replace hS : SH M X w [Ent.own 9 tS y8 (yg7 4 0), Ent.own 5 (tI .u8) q14 (yg7 7 0)] _ := hS.below hq.below
   rw [hX] at hS
   exact ⟨gL [], fun _ _ => rfl, hS.sel [0, 1] rfl⟩
  ·intro o ho a w yg7 M Hb hv hO hS0
   obtain rfl := Option.some.inj ho
   have H : Fr 23 ([(22, [], .agg ⟨[.string ⟨⟨name_⟩⟩, .bool inherited, .int .u8 first.Kind, .string ⟨⟨first.Word⟩⟩, .int .i64 first.Num, .int .u8 first.Color.Red, .int .u8 first.Color.Green, .int .u8 first.Color.Blue, .int .u8 first.Color.Alpha, .slice (yg7 4 0).a y8.length (yg7 4 0).c, .slice (yg7 7 0).a q14.length (yg7 7 0).c, .bool least]⟩)] ++ [(0, [], .string ⟨⟨name_⟩⟩), (1, [], .bool inherited), (3, [], .string ⟨⟨all_⟩⟩), (4, [], .bool least), (5, [], .slice g_more.a more.length g_more.c), (8, [], .pointer (some ⟨b1, 0, none⟩)), (12, [], .pointer (some ⟨b4, 0, none⟩))]) _ := (Hb).add (hv 9 (by decide) (by decide) 22 rfl)
   obtain ⟨X, hX⟩ : ∃ X, X = fpl [Ent.own 9 tS y8 (yg7 4 0), Ent.own 5 (tI .u8) q14 (yg7 7 0), Ent.blk b4 [.string ⟨⟨[]⟩⟩, .bool false, .int .u8 0, .string ⟨⟨[]⟩⟩, .int .i64 0, .int .u8 0, .int .u8 0, .int .u8 0, .int .u8 0, .slice none 0 0, .slice none 0 0, .bool false]] := ⟨_, rfl⟩
   have hS : SH M X w [Ent.own 9 tS y8 (yg7 4 0), Ent.own 5 (tI .u8) q14 (yg7 7 0), Ent.blk b4 [.string ⟨⟨[]⟩⟩, .bool false, .int .u8 0, .string ⟨⟨[]⟩⟩, .int .i64 0, .int .u8 0, .int .u8 0, .int .u8 0, .int .u8 0, .slice none 0 0, .slice none 0 0, .bool false]] w := by rw [hX]; exact hS0
   have hd := hS.hand [2] [0, 1] rfl rfl
   refine Stp.mono (o_store [.string ⟨⟨name_⟩⟩, .bool inherited, .int .u8 first.Kind, .string ⟨⟨first.Word⟩⟩, .int .i64 first.Num, .int .u8 first.Color.Red, .int .u8 first.Color.Green, .int .u8 first.Color.Blue, .int .u8 first.Color.Alpha, .slice (yg7 4 0).a y8.length (yg7 4 0).c, .slice (yg7 7 0).a q14.length (yg7 7 0).c, .bool least] H hd rfl rfl (by kernel_rfl) rfl rfl rfl) ?_
   rintro v w2 hq
   replace hS : SH M X w [Ent.blk b4 [.string ⟨⟨name_⟩⟩, .bool inherited, .int .u8 first.Kind, .string ⟨⟨first.Word⟩⟩, .int .i64 first.Num, .int .u8 first.Color.Red, .int .u8 first.Color.Green, .int .u8 first.Color.Blue, .int .u8 first.Color.Alpha, .slice (yg7 4 0).a y8.length (yg7 4 0).c, .slice (yg7 7 0).a q14.length (yg7 7 0).c, .bool least], Ent.own 9 tS y8 (yg7 4 0), Ent.own 5 (tI .u8) q14 (yg7 7 0)] _ := hS.join [2] [0, 1] rfl rfl hq
   clear hq
   rw [hX] at hS
   exact ⟨gL [], (fun _ h => by cases h), hS.sel [0, 1, 2] rfl⟩
 have H18 : Fr 23 [(12, [], .pointer (some ⟨b4, 0, none⟩))] _ := (FrG.keep (ks := [12]) H17 (by kernel_rfl))
 replace hS : SH M X w [Ent.own 9 tS y8 (yg7 4 0), Ent.own 5 (tI .u8) q14 (yg7 7 0), Ent.blk b4 [.string ⟨⟨name_⟩⟩, .bool inherited, .int .u8 first.Kind, .string ⟨⟨first.Word⟩⟩, .int .i64 first.Num, .int .u8 first.Color.Red, .int .u8 first.Color.Green, .int .u8 first.Color.Blue, .int .u8 first.Color.Alpha, .slice (yg7 4 0).a y8.length (yg7 4 0).c, .slice (yg7 7 0).a q14.length (yg7 7 0).c, .bool least], Ent.blk b1 [.int .u8 first.Kind, .string ⟨⟨first.Word⟩⟩, .int .i64 first.Num, .int .u8 first.Color.Red, .int .u8 first.Color.Green, .int .u8 first.Color.Blue, .int .u8 first.Color.Alpha], Ent.im (tI .u8) more g_more, gE0] _ := hS
 clear hv H17
 generalize yg7 4 0 = g19 at H18 hS
 generalize yg7 7 0 = g20 at H18 hS
 replace hS : SH M X w [Ent.own 9 tS y8 g19, Ent.own 5 (tI .u8) q14 g20, Ent.blk b4 [.string ⟨⟨name_⟩⟩, .bool inherited, .int .u8 first.Kind, .string ⟨⟨first.Word⟩⟩, .int .i64 first.Num, .int .u8 first.Color.Red, .int .u8 first.Color.Green, .int .u8 first.Color.Blue, .int .u8 first.Color.Alpha, .slice g19.a y8.length g19.c, .slice g20.a q14.length g20.c, .bool least], gE0] _ := hS.sel [0, 1, 2, 5] rfl
 refine w_ret ?_
 obtain rfl := someE hm
 exact retR1 H18 rfl (oneRes_agg rfl (hS.bk 2 rfl) Tryd.underlying68 rfl (by kernel_rfl)) ⟨_, rfl, g19, g20, rfl, (hS.sel [0, 1] rfl)⟩
theorem props_length_ok {g_more : Gh} (m : Nat) (name_ : Str) (inherited : Bool) (first : TVal) (all_ : Str) (least : Bool) (more : List Int) (r : TProp) (hm : props_length m name_ inherited first all_ least more = some r) (M : Av) (w : World) (hS : S0 M [Ent.im (tI .u8) more g_more, gE0] w) : DoesX Tryd.prog 46 ⟨[.string ⟨⟨name_⟩⟩, .bool inherited, .agg ⟨[.int .u8 first.Kind, .string ⟨⟨first.Word⟩⟩, .int .i64 first.Num, .int .u8 first.Color.Red, .int .u8 first.Color.Green, .int .u8 first.Color.Blue, .int .u8 first.Color.Alpha]⟩, .string ⟨⟨all_⟩⟩, .bool least, .slice g_more.a more.length g_more.c]⟩ w (fun v w' => ∃ (g901 : Gh) (g903 : Gh), v = .agg ⟨[.string ⟨⟨r.Name⟩⟩, .bool r.Inherited, .int .u8 r.Initial.Kind, .string ⟨⟨r.Initial.Word⟩⟩, .int .i64 r.Initial.Num, .int .u8 r.Initial.Color.Red, .int .u8 r.Initial.Color.Green, .int .u8 r.Initial.Color.Blue, .int .u8 r.Initial.Color.Alpha, .slice g901.a r.Words.length g901.c, .slice g903.a r.Kinds.length g903.c, .bool r.Least]⟩ ∧ SH M (fpl [Ent.im (tI .u8) more g_more, gE0]) w [Ent.own 9 tS r.Words g901, Ent.own 5 (tI .u8) r.Kinds g903] w') := ⟨Tryd.call46 _, props_length_w M m   name_ inherited first all_ least more r hm w hS⟩

def props_Table_L1 (m : Nat)  : Nat → (List TProp) → Int → Option (List TProp)
  | 0, _, _ => none
  | kk + 1, v88, v90 =>
    cond (decide (v90 < 4)) (
    chk (0 ≤ v90 ∧ v90 < ln ([[116, 111, 112], [114, 105, 103, 104, 116], [98, 111, 116, 116, 111, 109], [108, 101, 102, 116]] : List Str)) <|
    lt ((gi ([[116, 111, 112], [114, 105, 103, 104, 116], [98, 111, 116, 116, 111, 109], [108, 101, 102, 116]] : List Str) v90)) fun x94 =>
    chk (ln [109, 97, 114, 103, 105, 110, 45] + ln x94 ≤ 9223372036854775807) <|
    Option.bind (props_length m ([109, 97, 114, 103, 105, 110, 45] ++ x94) false (TVal.mk 2 [] 0 (TColor.mk 0 0 0 0)) [97, 117, 116, 111] false []) fun y101 =>
    chk (ln v88 + ln ([y101] : List TProp) ≤ 1099511627776) <|
    lt (v88 ++ ([y101] : List TProp)) fun q113 =>
    props_Table_L1 m  kk q113 (w64 (v90 + 1))) (
    some v88)
def props_Table (m : Nat)  : Option (List TProp) :=
  lt (props_word [97, 117, 116, 111]) fun y3 =>
  lt (props_color [99, 111, 108, 111, 114] true (TVal.mk 7 [] 0 (TColor.mk 0 0 0 255))) fun y17 =>
  lt (props_color [98, 97, 99, 107, 103, 114, 111, 117, 110, 100, 45, 99, 111, 108, 111, 114] false (TVal.mk 7 [] 0 (TColor.mk 0 0 0 0))) fun y22 =>
  lt (props_color [98, 111, 114, 100, 101, 114, 45, 99, 111, 108, 111, 114] false (TVal.mk 8 [] 0 (TColor.mk 0 0 0 0))) fun y27 =>
  lt (props_color [111, 117, 116, 108, 105, 110, 101, 45, 99, 111, 108, 111, 114] false (TVal.mk 8 [] 0 (TColor.mk 0 0 0 0))) fun y32 =>
  Option.bind (props_words m [100, 105, 115, 112, 108, 97, 121] false [105, 110, 108, 105, 110, 101] [98, 108, 111, 99, 107, 32, 102, 108, 101, 120, 32, 105, 110, 108, 105, 110, 101, 32, 105, 110, 108, 105, 110, 101, 45, 98, 108, 111, 99, 107, 32, 110, 111, 110, 101]) fun y37 =>
  Option.bind (props_words m [118, 105, 115, 105, 98, 105, 108, 105, 116, 121] true [118, 105, 115, 105, 98, 108, 101] [99, 111, 108, 108, 97, 112, 115, 101, 32, 104, 105, 100, 100, 101, 110, 32, 118, 105, 115, 105, 98, 108, 101]) fun y42 =>
  Option.bind (props_length m [119, 105, 100, 116, 104] false y3 [97, 117, 116, 111] true []) fun y48 =>
  Option.bind (props_length m [104, 101, 105, 103, 104, 116] false y3 [97, 117, 116, 111] true []) fun y54 =>
  Option.bind (
  props_Table_L1 m  m ([y17, y22, y27, y32, y37, y42, y48, y54] : List TProp) 0) fun (z81 : List TProp) =>
  Option.bind (props_length m [102, 111, 110, 116, 45, 115, 105, 122, 101] true (TVal.mk 2 [] 16000 (TColor.mk 0 0 0 0)) [] true []) fun y126 =>
  lt (props_word [110, 111, 114, 109, 97, 108]) fun y131 =>
  Option.bind (props_length m [108, 105, 110, 101, 45, 104, 101, 105, 103, 104, 116] true y131 [110, 111, 114, 109, 97, 108] true ([5] : List Int)) fun y134 =>
  Option.bind (props_words m [116, 101, 120, 116, 45, 97, 108, 105, 103, 110] true [108, 101, 102, 116] [99, 101, 110, 116, 101, 114, 32, 106, 117, 115, 116, 105, 102, 121, 32, 108, 101, 102, 116, 32, 114, 105, 103, 104, 116]) fun y139 =>
  chk (ln z81 + ln ([y126, y134, y139, (TProp.mk [111, 112, 97, 99, 105, 116, 121] false (TVal.mk 5 [] 1000 (TColor.mk 0 0 0 0)) [] ([5] : List Int) false), (TProp.mk [122, 45, 105, 110, 100, 101, 120] false y3 ([[97, 117, 116, 111]] : List Str) ([6] : List Int) false), (TProp.mk [111, 114, 100, 101, 114] false (TVal.mk 6 [] 0 (TColor.mk 0 0 0 0)) [] ([6] : List Int) false)] : List TProp) ≤ 1099511627776) <|
  lt (z81 ++ ([y126, y134, y139, (TProp.mk [111, 112, 97, 99, 105, 116, 121] false (TVal.mk 5 [] 1000 (TColor.mk 0 0 0 0)) [] ([5] : List Int) false), (TProp.mk [122, 45, 105, 110, 100, 101, 120] false y3 ([[97, 117, 116, 111]] : List Str) ([6] : List Int) false), (TProp.mk [111, 114, 100, 101, 114] false (TVal.mk 6 [] 0 (TColor.mk 0 0 0 0)) [] ([6] : List Int) false)] : List TProp)) fun q155 =>
  some q155
theorem props_Table_w  (M : Av) (m : Nat)  (r : List TProp) (hm : props_Table m = some r) (w : World) (hS : S0 M [gE0] w) : Calls Tryd.prog 26 ⟨[]⟩ w (fun e w' => ∃ v, e = .returned v ∧ ∃ (g901 : Gh), v = .slice g901.a r.length g901.c ∧ SH M (fpl [gE0]) w [Ent.own 68 tyProp r g901] w') := by
 rw [props_Table] at hm
 have hS0 : SH M (fpl [gE0]) w [gE0] w := hS
 generalize hX : fpl [gE0] = X at hS0 ⊢
 clear hS hX
 have hS := hS0
 clear hS0
 refine calls_entryP Tryd.func26 rfl Tryd.ntmps26 rfl fun _ H => ?_
 refine s_reg [] [] [] [] H (by kernel_rfl) trivial fun _ wd1 H2 hb => ?_
 clear H
 replace hS := hS.below hb
 clear hb
 refine w_seq ?_
 refine wl_start ?_
 obtain ⟨y3, hy3, hm⟩ := letE hm
 refine wl_batch 0 2 [(.agg ⟨[.int .u8 y3.Kind, .string ⟨⟨y3.Word⟩⟩, .int .i64 y3.Num, .int .u8 y3.Color.Red, .int .u8 y3.Color.Green, .int .u8 y3.Color.Blue, .int .u8 y3.Color.Alpha]⟩)] [6, 7] [(6, [], .agg ⟨[.int .u8 y3.Kind, .string ⟨⟨y3.Word⟩⟩, .int .i64 y3.Num, .int .u8 y3.Color.Red, .int .u8 y3.Color.Green, .int .u8 y3.Color.Blue, .int .u8 y3.Color.Alpha]⟩), (7, [], .agg ⟨[.int .u8 2, .string ⟨⟨[]⟩⟩, .int .i64 0, .int .u8 0, .int .u8 0, .int .u8 0, .int .u8 0]⟩)] [fun wz => RetB Tryd.prog 43 ⟨[.string ⟨⟨[97, 117, 116, 111]⟩⟩]⟩ (.agg ⟨[.int .u8 y3.Kind, .string ⟨⟨y3.Word⟩⟩, .int .i64 y3.Num, .int .u8 y3.Color.Red, .int .u8 y3.Color.Green, .int .u8 y3.Color.Blue, .int .u8 y3.Color.Alpha]⟩) wz] H2 (by decide) (by subst hy3; kernel_rfl) ⟨((by rw [hy3]; exact (props_word_ok _).b)), trivial⟩ fun _ wd4 H5 hb => ?_
 clear H2
 replace hS := hS.below hb
 clear hb
 have hd := hS.hand [] [0] rfl rfl
 refine m_stp [1, 6, 7] [(6, [], .agg ⟨[.int .u8 y3.Kind, .string ⟨⟨y3.Word⟩⟩, .int .i64 y3.Num, .int .u8 y3.Color.Red, .int .u8 y3.Color.Green, .int .u8 y3.Color.Blue, .int .u8 y3.Color.Alpha]⟩), (7, [], .agg ⟨[.int .u8 2, .string ⟨⟨[]⟩⟩, .int .i64 0, .int .u8 0, .int .u8 0, .int .u8 0, .int .u8 0]⟩)] H5 rfl rfl rfl rfl (o_alloc [.int .u8 0, .string ⟨⟨[]⟩⟩, .int .i64 0, .int .u8 0, .int .u8 0, .int .u8 0, .int .u8 0] (z := .agg ⟨[.int .u8 0, .string ⟨⟨[]⟩⟩, .int .i64 0, .int .u8 0, .int .u8 0, .int .u8 0, .int .u8 0]⟩) hd (by kernel_rfl) rfl) (fun _ => rfl) fun _ wd7 v H8 hq => ?_
 clear H5 hd
 obtain ⟨b6, rfl, hq⟩ := hq
 replace hS : SH M X w [Ent.blk b6 [.int .u8 0, .string ⟨⟨[]⟩⟩, .int .i64 0, .int .u8 0, .int .u8 0, .int .u8 0, .int .u8 0], gE0] _ := hS.join [] [0] rfl rfl hq
 clear hq
 have hd := hS.hand [] [0, 1] rfl rfl
 refine m_stp [2, 1, 6, 7] [(1, [], .pointer (some ⟨b6, 0, none⟩)), (6, [], .agg ⟨[.int .u8 y3.Kind, .string ⟨⟨y3.Word⟩⟩, .int .i64 y3.Num, .int .u8 y3.Color.Red, .int .u8 y3.Color.Green, .int .u8 y3.Color.Blue, .int .u8 y3.Color.Alpha]⟩), (7, [], .agg ⟨[.int .u8 2, .string ⟨⟨[]⟩⟩, .int .i64 0, .int .u8 0, .int .u8 0, .int .u8 0, .int .u8 0]⟩)] H8 rfl rfl rfl rfl (o_alloc [.int .u8 0, .string ⟨⟨[]⟩⟩, .int .i64 0, .int .u8 0, .int .u8 0, .int .u8 0, .int .u8 0] (z := .agg ⟨[.int .u8 0, .string ⟨⟨[]⟩⟩, .int .i64 0, .int .u8 0, .int .u8 0, .int .u8 0, .int .u8 0]⟩) hd (by kernel_rfl) rfl) (fun _ => rfl) fun _ wd10 v H11 hq => ?_
 clear H8 hd
 obtain ⟨b9, rfl, hq⟩ := hq
 replace hS : SH M X w [Ent.blk b9 [.int .u8 0, .string ⟨⟨[]⟩⟩, .int .i64 0, .int .u8 0, .int .u8 0, .int .u8 0, .int .u8 0], Ent.blk b6 [.int .u8 0, .string ⟨⟨[]⟩⟩, .int .i64 0, .int .u8 0, .int .u8 0, .int .u8 0, .int .u8 0], gE0] _ := hS.join [] [0, 1] rfl rfl hq
 clear hq
 have hd := hS.hand [1] [0, 2] rfl rfl
 refine m_stp0 [1, 2, 7] [(1, [], .pointer (some ⟨b6, 0, none⟩)), (2, [], .pointer (some ⟨b9, 0, none⟩)), (7, [], .agg ⟨[.int .u8 2, .string ⟨⟨[]⟩⟩, .int .i64 0, .int .u8 0, .int .u8 0, .int .u8 0, .int .u8 0]⟩)] H11 rfl rfl rfl (o_store [.int .u8 y3.Kind, .string ⟨⟨y3.Word⟩⟩, .int .i64 y3.Num, .int .u8 y3.Color.Red, .int .u8 y3.Color.Green, .int .u8 y3.Color.Blue, .int .u8 y3.Color.Alpha] H11 hd rfl rfl (by kernel_rfl) rfl rfl rfl) rfl fun _ wd12 H13 hq => ?_
 clear H11 hd
 obtain ⟨_, hq⟩ := hq
 replace hS : SH M X w [Ent.blk b6 [.int .u8 y3.Kind, .string ⟨⟨y3.Word⟩⟩, .int .i64 y3.Num, .int .u8 y3.Color.Red, .int .u8 y3.Color.Green, .int .u8 y3.Color.Blue, .int .u8 y3.Color.Alpha], Ent.blk b9 [.int .u8 0, .string ⟨⟨[]⟩⟩, .int .i64 0, .int .u8 0, .int .u8 0, .int .u8 0, .int .u8 0], gE0] _ := hS.join [1] [0, 2] rfl rfl hq
 clear hq
 have hd := hS.hand [1] [0, 2] rfl rfl
 refine m_stp0 [1, 2] [(1, [], .pointer (some ⟨b6, 0, none⟩)), (2, [], .pointer (some ⟨b9, 0, none⟩))] H13 rfl rfl rfl (o_store [.int .u8 2, .string ⟨⟨[]⟩⟩, .int .i64 0, .int .u8 0, .int .u8 0, .int .u8 0, .int .u8 0] H13 hd rfl rfl (by kernel_rfl) rfl rfl rfl) rfl fun _ wd14 H15 hq => ?_
 clear H13 hd
 obtain ⟨_, hq⟩ := hq
 replace hS : SH M X w [Ent.blk b9 [.int .u8 2, .string ⟨⟨[]⟩⟩, .int .i64 0, .int .u8 0, .int .u8 0, .int .u8 0, .int .u8 0], Ent.blk b6 [.int .u8 y3.Kind, .string ⟨⟨y3.Word⟩⟩, .int .i64 y3.Num, .int .u8 y3.Color.Red, .int .u8 y3.Color.Green, .int .u8 y3.Color.Blue, .int .u8 y3.Color.Alpha], gE0] _ := hS.join [1] [0, 2] rfl rfl hq
 clear hq
 refine wl_end rfl ?_
 obtain ⟨y17, hy17, hm⟩ := letE hm
 obtain ⟨y22, hy22, hm⟩ := letE hm
 obtain ⟨y27, hy27, hm⟩ := letE hm
 obtain ⟨y32, hy32, hm⟩ := letE hm
 obtain ⟨y37, hy37, hm⟩ := bindE hm
 obtain ⟨y42, hy42, hm⟩ := bindE hm
 obtain ⟨y48, hy48, hm⟩ := bindE hm
 obtain ⟨y54, hy54, hm⟩ := bindE hm
 refine s_drawS (base := [(1, [], .pointer (some ⟨b6, 0, none⟩)), (2, [], .pointer (some ⟨b9, 0, none⟩))]) (L := [Ent.blk b9 [.int .u8 2, .string ⟨⟨[]⟩⟩, .int .i64 0, .int .u8 0, .int .u8 0, .int .u8 0, .int .u8 0], Ent.blk b6 [.int .u8 y3.Kind, .string ⟨⟨y3.Word⟩⟩, .int .i64 y3.Num, .int .u8 y3.Color.Red, .int .u8 y3.Color.Green, .int .u8 y3.Color.Blue, .int .u8 y3.Color.Alpha], gE0]) 17 3 (fun yg16 => [.agg ⟨[.int .u8 0, .int .u8 0, .int .u8 0, .int .u8 255]⟩, .agg ⟨[.int .u8 7, .string ⟨⟨[]⟩⟩, .int .i64 0, .int .u8 0, .int .u8 0, .int .u8 0, .int .u8 255]⟩, .agg ⟨[.string ⟨⟨y17.Name⟩⟩, .bool y17.Inherited, .int .u8 y17.Initial.Kind, .string ⟨⟨y17.Initial.Word⟩⟩, .int .i64 y17.Initial.Num, .int .u8 y17.Initial.Color.Red, .int .u8 y17.Initial.Color.Green, .int .u8 y17.Initial.Color.Blue, .int .u8 y17.Initial.Color.Alpha, .slice (yg16 2 0).a y17.Words.length (yg16 2 0).c, .slice (yg16 2 1).a y17.Kinds.length (yg16 2 1).c, .bool y17.Least]⟩, .agg ⟨[.int .u8 7, .string ⟨⟨[]⟩⟩, .int .i64 0, .int .u8 0, .int .u8 0, .int .u8 0, .int .u8 0]⟩, .agg ⟨[.string ⟨⟨y22.Name⟩⟩, .bool y22.Inherited, .int .u8 y22.Initial.Kind, .string ⟨⟨y22.Initial.Word⟩⟩, .int .i64 y22.Initial.Num, .int .u8 y22.Initial.Color.Red, .int .u8 y22.Initial.Color.Green, .int .u8 y22.Initial.Color.Blue, .int .u8 y22.Initial.Color.Alpha, .slice (yg16 4 0).a y22.Words.length (yg16 4 0).c, .slice (yg16 4 1).a y22.Kinds.length (yg16 4 1).c, .bool y22.Least]⟩, .agg ⟨[.int .u8 8, .string ⟨⟨[]⟩⟩, .int .i64 0, .int .u8 0, .int .u8 0, .int .u8 0, .int .u8 0]⟩, .agg ⟨[.string ⟨⟨y27.Name⟩⟩, .bool y27.Inherited, .int .u8 y27.Initial.Kind, .string ⟨⟨y27.Initial.Word⟩⟩, .int .i64 y27.Initial.Num, .int .u8 y27.Initial.Color.Red, .int .u8 y27.Initial.Color.Green, .int .u8 y27.Initial.Color.Blue, .int .u8 y27.Initial.Color.Alpha, .slice (yg16 6 0).a y27.Words.length (yg16 6 0).c, .slice (yg16 6 1).a y27.Kinds.length (yg16 6 1).c, .bool y27.Least]⟩, .agg ⟨[.int .u8 8, .string ⟨⟨[]⟩⟩, .int .i64 0, .int .u8 0, .int .u8 0, .int .u8 0, .int .u8 0]⟩, .agg ⟨[.string ⟨⟨y32.Name⟩⟩, .bool y32.Inherited, .int .u8 y32.Initial.Kind, .string ⟨⟨y32.Initial.Word⟩⟩, .int .i64 y32.Initial.Num, .int .u8 y32.Initial.Color.Red, .int .u8 y32.Initial.Color.Green, .int .u8 y32.Initial.Color.Blue, .int .u8 y32.Initial.Color.Alpha, .slice (yg16 8 0).a y32.Words.length (yg16 8 0).c, .slice (yg16 8 1).a y32.Kinds.length (yg16 8 1).c, .bool y32.Least]⟩, .agg ⟨[.string ⟨⟨y37.Name⟩⟩, .bool y37.Inherited, .int .u8 y37.Initial.Kind, .string ⟨⟨y37.Initial.Word⟩⟩, .int .i64 y37.Initial.Num, .int .u8 y37.Initial.Color.Red, .int .u8 y37.Initial.Color.Green, .int .u8 y37.Initial.Color.Blue, .int .u8 y37.Initial.Color.Alpha, .slice (yg16 9 0).a y37.Words.length (yg16 9 0).c, .slice (yg16 9 1).a y37.Kinds.length (yg16 9 1).c, .bool y37.Least]⟩, .agg ⟨[.string ⟨⟨y42.Name⟩⟩, .bool y42.Inherited, .int .u8 y42.Initial.Kind, .string ⟨⟨y42.Initial.Word⟩⟩, .int .i64 y42.Initial.Num, .int .u8 y42.Initial.Color.Red, .int .u8 y42.Initial.Color.Green, .int .u8 y42.Initial.Color.Blue, .int .u8 y42.Initial.Color.Alpha, .slice (yg16 10 0).a y42.Words.length (yg16 10 0).c, .slice (yg16 10 1).a y42.Kinds.length (yg16 10 1).c, .bool y42.Least]⟩, .agg ⟨[.int .u8 y3.Kind, .string ⟨⟨y3.Word⟩⟩, .int .i64 y3.Num, .int .u8 y3.Color.Red, .int .u8 y3.Color.Green, .int .u8 y3.Color.Blue, .int .u8 y3.Color.Alpha]⟩, .agg ⟨[.string ⟨⟨y48.Name⟩⟩, .bool y48.Inherited, .int .u8 y48.Initial.Kind, .string ⟨⟨y48.Initial.Word⟩⟩, .int .i64 y48.Initial.Num, .int .u8 y48.Initial.Color.Red, .int .u8 y48.Initial.Color.Green, .int .u8 y48.Initial.Color.Blue, .int .u8 y48.Initial.Color.Alpha, .slice (yg16 12 0).a y48.Words.length (yg16 12 0).c, .slice (yg16 12 1).a y48.Kinds.length (yg16 12 1).c, .bool y48.Least]⟩, .agg ⟨[.int .u8 y3.Kind, .string ⟨⟨y3.Word⟩⟩, .int .i64 y3.Num, .int .u8 y3.Color.Red, .int .u8 y3.Color.Green, .int .u8 y3.Color.Blue, .int .u8 y3.Color.Alpha]⟩, .agg ⟨[.string ⟨⟨y54.Name⟩⟩, .bool y54.Inherited, .int .u8 y54.Initial.Kind, .string ⟨⟨y54.Initial.Word⟩⟩, .int .i64 y54.Initial.Num, .int .u8 y54.Initial.Color.Red, .int .u8 y54.Initial.Color.Green, .int .u8 y54.Initial.Color.Blue, .int .u8 y54.Initial.Color.Alpha, .slice (yg16 14 0).a y54.Words.length (yg16 14 0).c, .slice (yg16 14 1).a y54.Kinds.length (yg16 14 1).c, .bool y54.Least]⟩, .slice (yg16 15 0).a 8 (yg16 15 0).c, .slice (yg16 15 0).a 8 (yg16 15 0).c]) (fun yg16 => [[], [], [Ent.own 9 tS y17.Words (yg16 2 0), Ent.own 5 (tI .u8) y17.Kinds (yg16 2 1)], [], [Ent.own 9 tS y22.Words (yg16 4 0), Ent.own 5 (tI .u8) y22.Kinds (yg16 4 1)], [], [Ent.own 9 tS y27.Words (yg16 6 0), Ent.own 5 (tI .u8) y27.Kinds (yg16 6 1)], [], [Ent.own 9 tS y32.Words (yg16 8 0), Ent.own 5 (tI .u8) y32.Kinds (yg16 8 1)], [Ent.own 9 tS y37.Words (yg16 9 0), Ent.own 5 (tI .u8) y37.Kinds (yg16 9 1)], [Ent.own 9 tS y42.Words (yg16 10 0), Ent.own 5 (tI .u8) y42.Kinds (yg16 10 1)], [], [Ent.own 9 tS y48.Words (yg16 12 0), Ent.own 5 (tI .u8) y48.Kinds (yg16 12 1), Ent.im (tI .u8) ([] : List Int) (.nil)], [], [Ent.own 9 tS y54.Words (yg16 14 0), Ent.own 5 (tI .u8) y54.Kinds (yg16 14 1), Ent.im (tI .u8) ([] : List Int) (.nil)], [Ent.own 68 tyProp ([y17, y22, y27, y32, y37, y42, y48, y54] : List TProp) (yg16 15 0), Ent.im (tI .u8) y54.Kinds (yg16 14 1), Ent.im tS y54.Words (yg16 14 0), Ent.im (tI .u8) y48.Kinds (yg16 12 1), Ent.im tS y48.Words (yg16 12 0), Ent.im (tI .u8) y42.Kinds (yg16 10 1), Ent.im tS y42.Words (yg16 10 0), Ent.im (tI .u8) y37.Kinds (yg16 9 1), Ent.im tS y37.Words (yg16 9 0), Ent.im (tI .u8) y32.Kinds (yg16 8 1), Ent.im tS y32.Words (yg16 8 0), Ent.im (tI .u8) y27.Kinds (yg16 6 1), Ent.im tS y27.Words (yg16 6 0), Ent.im (tI .u8) y22.Kinds (yg16 4 1), Ent.im tS y22.Words (yg16 4 0), Ent.im (tI .u8) y17.Kinds (yg16 2 1), Ent.im tS y17.Words (yg16 2 0), Ent.im (tI .u8) ([] : List Int) (.nil), Ent.im (tI .u8) ([] : List Int) (.nil)], []]) [[], [], [], [], [], [], [], [], [], [19], [19], [18], [19], [18], [19], [2, 4, 6, 8, 9, 10, 12, 14], [15]] [[], [], [], [], [], [], [], [], [], [], [], [], [], [], [], [2, 4, 6, 8, 9, 10, 12, 14], []] [[0], [0, 1], [0, 1, 2], [3], [3, 4], [5], [5, 6], [7], [7, 8], [9], [10], [11], [11, 12], [13], [13, 14], [0, 1, 2, 3, 4, 5, 6, 7, 8, 9, 10, 11, 12, 13, 14, 15], [0, 1, 2, 3, 4, 5, 6, 7, 8, 9, 10, 11, 12, 13, 14, 15, 16]] [] (FrG.keep (ks := [1, 2]) H15 (by kernel_rfl)) (fun _ _ h => by cases h) (by kernel_rfl) hS (by kernel_rfl) rfl rfl (by kernel_rfl) (by kernel_rfl) (by kernel_rfl) (gd_none (by kernel_rfl) _ _) ?hloc_yg16 ?hstep_yg16 fun _ wd61 yg16 H62 hv hS => ?hK_yg16
 case hloc_yg16 => exact ⟨(fun _ _ _ _ => ⟨rfl, rfl⟩), (fun _ _ _ _ => ⟨rfl, rfl⟩), (fun yg16 i g hi => by have h2 : updC yg16 i g 2 = yg16 2 := updC_out hi rfl; exact ⟨(show (.agg ⟨[.string ⟨⟨y17.Name⟩⟩, .bool y17.Inherited, .int .u8 y17.Initial.Kind, .string ⟨⟨y17.Initial.Word⟩⟩, .int .i64 y17.Initial.Num, .int .u8 y17.Initial.Color.Red, .int .u8 y17.Initial.Color.Green, .int .u8 y17.Initial.Color.Blue, .int .u8 y17.Initial.Color.Alpha, .slice ((updC yg16 i g) 2 0).a y17.Words.length ((updC yg16 i g) 2 0).c, .slice ((updC yg16 i g) 2 1).a y17.Kinds.length ((updC yg16 i g) 2 1).c, .bool y17.Least]⟩ : Value) = .agg ⟨[.string ⟨⟨y17.Name⟩⟩, .bool y17.Inherited, .int .u8 y17.Initial.Kind, .string ⟨⟨y17.Initial.Word⟩⟩, .int .i64 y17.Initial.Num, .int .u8 y17.Initial.Color.Red, .int .u8 y17.Initial.Color.Green, .int .u8 y17.Initial.Color.Blue, .int .u8 y17.Initial.Color.Alpha, .slice (yg16 2 0).a y17.Words.length (yg16 2 0).c, .slice (yg16 2 1).a y17.Kinds.length (yg16 2 1).c, .bool y17.Least]⟩ by simp only [h2]), (show ([Ent.own 9 tS y17.Words ((updC yg16 i g) 2 0), Ent.own 5 (tI .u8) y17.Kinds ((updC yg16 i g) 2 1)] : List Ent) = [Ent.own 9 tS y17.Words (yg16 2 0), Ent.own 5 (tI .u8) y17.Kinds (yg16 2 1)] by simp only [h2])⟩), (fun _ _ _ _ => ⟨rfl, rfl⟩), (fun yg16 i g hi => by have h4 : updC yg16 i g 4 = yg16 4 := updC_out hi rfl; exact ⟨(show (.agg ⟨[.string ⟨⟨y22.Name⟩⟩, .bool y22.Inherited, .int .u8 y22.Initial.Kind, .string ⟨⟨y22.Initial.Word⟩⟩, .int .i64 y22.Initial.Num, .int .u8 y22.Initial.Color.Red, .int .u8 y22.Initial.Color.Green, .int .u8 y22.Initial.Color.Blue, .int .u8 y22.Initial.Color.Alpha, .slice ((updC yg16 i g) 4 0).a y22.Words.length ((updC yg16 i g) 4 0).c, .slice ((updC yg16 i g) 4 1).a y22.Kinds.length ((updC yg16 i g) 4 1).c, .bool y22.Least]⟩ : Value) = .agg ⟨[.string ⟨⟨y22.Name⟩⟩, .bool y22.Inherited, .int .u8 y22.Initial.Kind, .string ⟨⟨y22.Initial.Word⟩⟩, .int .i64 y22.Initial.Num, .int .u8 y22.Initial.Color.Red, .int .u8 y22.Initial.Color.Green, .int .u8 y22.Initial.Color.Blue, .int .u8 y22.Initial.Color.Alpha, .slice (yg16 4 0).a y22.Words.length (yg16 4 0).c, .slice (yg16 4 1).a y22.Kinds.length (yg16 4 1).c, .bool y22.Least]⟩ by simp only [h4]), (show ([Ent.own 9 tS y22.Words ((updC yg16 i g) 4 0), Ent.own 5 (tI .u8) y22.Kinds ((updC yg16 i g) 4 1)] : List Ent) = [Ent.own 9 tS y22.Words (yg16 4 0), Ent.own 5 (tI .u8) y22.Kinds (yg16 4 1)] by simp only [h4])⟩), (fun _ _ _ _ => ⟨rfl, rfl⟩), (fun yg16 i g hi => by have h6 : updC yg16 i g 6 = yg16 6 := updC_out hi rfl; exact ⟨(show (.agg ⟨[.string ⟨⟨y27.Name⟩⟩, .bool y27.Inherited, .int .u8 y27.Initial.Kind, .string ⟨⟨y27.Initial.Word⟩⟩, .int .i64 y27.Initial.Num, .int .u8 y27.Initial.Color.Red, .int .u8 y27.Initial.Color.Green, .int .u8 y27.Initial.Color.Blue, .int .u8 y27.Initial.Color.Alpha, .slice ((updC yg16 i g) 6 0).a y27.Words.length ((updC yg16 i g) 6 0).c, .slice ((updC yg16 i g) 6 1).a y27.Kinds.length ((updC yg16 i g) 6 1).c, .bool y27.Least]⟩ : Value) = .agg ⟨[.string ⟨⟨y27.Name⟩⟩, .bool y27.Inherited, .int .u8 y27.Initial.Kind, .string ⟨⟨y27.Initial.Word⟩⟩, .int .i64 y27.Initial.Num, .int .u8 y27.Initial.Color.Red, .int .u8 y27.Initial.Color.Green, .int .u8 y27.Initial.Color.Blue, .int .u8 y27.Initial.Color.Alpha, .slice (yg16 6 0).a y27.Words.length (yg16 6 0).c, .slice (yg16 6 1).a y27.Kinds.length (yg16 6 1).c, .bool y27.Least]⟩ by simp only [h6]), (show ([Ent.own 9 tS y27.Words ((updC yg16 i g) 6 0), Ent.own 5 (tI .u8) y27.Kinds ((updC yg16 i g) 6 1)] : List Ent) = [Ent.own 9 tS y27.Words (yg16 6 0), Ent.own 5 (tI .u8) y27.Kinds (yg16 6 1)] by simp only [h6])⟩), (fun _ _ _ _ => ⟨rfl, rfl⟩), (fun yg16 i g hi => by have h8 : updC yg16 i g 8 = yg16 8 := updC_out hi rfl; exact ⟨(show (.agg ⟨[.string ⟨⟨y32.Name⟩⟩, .bool y32.Inherited, .int .u8 y32.Initial.Kind, .string ⟨⟨y32.Initial.Word⟩⟩, .int .i64 y32.Initial.Num, .int .u8 y32.Initial.Color.Red, .int .u8 y32.Initial.Color.Green, .int .u8 y32.Initial.Color.Blue, .int .u8 y32.Initial.Color.Alpha, .slice ((updC yg16 i g) 8 0).a y32.Words.length ((updC yg16 i g) 8 0).c, .slice ((updC yg16 i g) 8 1).a y32.Kinds.length ((updC yg16 i g) 8 1).c, .bool y32.Least]⟩ : Value) = .agg ⟨[.string ⟨⟨y32.Name⟩⟩, .bool y32.Inherited, .int .u8 y32.Initial.Kind, .string ⟨⟨y32.Initial.Word⟩⟩, .int .i64 y32.Initial.Num, .int .u8 y32.Initial.Color.Red, .int .u8 y32.Initial.Color.Green, .int .u8 y32.Initial.Color.Blue, .int .u8 y32.Initial.Color.Alpha, .slice (yg16 8 0).a y32.Words.length (yg16 8 0).c, .slice (yg16 8 1).a y32.Kinds.length (yg16 8 1).c, .bool y32.Least]⟩ by simp only [h8]), (show ([Ent.own 9 tS y32.Words ((updC yg16 i g) 8 0), Ent.own 5 (tI .u8) y32.Kinds ((updC yg16 i g) 8 1)] : List Ent) = [Ent.own 9 tS y32.Words (yg16 8 0), Ent.own 5 (tI .u8) y32.Kinds (yg16 8 1)] by simp only [h8])⟩), (fun yg16 i g hi => by have h9 : updC yg16 i g 9 = yg16 9 := updC_out hi rfl; exact ⟨(show (.agg ⟨[.string ⟨⟨y37.Name⟩⟩, .bool y37.Inherited, .int .u8 y37.Initial.Kind, .string ⟨⟨y37.Initial.Word⟩⟩, .int .i64 y37.Initial.Num, .int .u8 y37.Initial.Color.Red, .int .u8 y37.Initial.Color.Green, .int .u8 y37.Initial.Color.Blue, .int .u8 y37.Initial.Color.Alpha, .slice ((updC yg16 i g) 9 0).a y37.Words.length ((updC yg16 i g) 9 0).c, .slice ((updC yg16 i g) 9 1).a y37.Kinds.length ((updC yg16 i g) 9 1).c, .bool y37.Least]⟩ : Value) = .agg ⟨[.string ⟨⟨y37.Name⟩⟩, .bool y37.Inherited, .int .u8 y37.Initial.Kind, .string ⟨⟨y37.Initial.Word⟩⟩, .int .i64 y37.Initial.Num, .int .u8 y37.Initial.Color.Red, .int .u8 y37.Initial.Color.Green, .int .u8 y37.Initial.Color.Blue, .int .u8 y37.Initial.Color.Alpha, .slice (yg16 9 0).a y37.Words.length (yg16 9 0).c, .slice (yg16 9 1).a y37.Kinds.length (yg16 9 1).c, .bool y37.Least]⟩ by simp only [h9]), (show ([Ent.own 9 tS y37.Words ((updC yg16 i g) 9 0), Ent.own 5 (tI .u8) y37.Kinds ((updC yg16 i g) 9 1)] : List Ent) = [Ent.own 9 tS y37.Words (yg16 9 0), Ent.own 5 (tI .u8) y37.Kinds (yg16 9 1)] by simp only [h9])⟩), (fun yg16 i g hi => by have h10 : updC yg16 i g 10 = yg16 10 := updC_out hi rfl; exact ⟨(show (.agg ⟨[.string ⟨⟨y42.Name⟩⟩, .bool y42.Inherited, .int .u8 y42.Initial.Kind, .string ⟨⟨y42.Initial.Word⟩⟩, .int .i64 y42.Initial.Num, .int .u8 y42.Initial.Color.Red, .int .u8 y42.Initial.Color.Green, .int .u8 y42.Initial.Color.Blue, .int .u8 y42.Initial.Color.Alpha, .slice ((updC yg16 i g) 10 0).a y42.Words.length ((updC yg16 i g) 10 0).c, .slice ((updC yg16 i g) 10 1).a y42.Kinds.length ((updC yg16 i g) 10 1).c, .bool y42.Least]⟩ : Value) = .agg ⟨[.string ⟨⟨y42.Name⟩⟩, .bool y42.Inherited, .int .u8 y42.Initial.Kind, .string ⟨⟨y42.Initial.Word⟩⟩, .int .i64 y42.Initial.Num, .int .u8 y42.Initial.Color.Red, .int .u8 y42.Initial.Color.Green, .int .u8 y42.Initial.Color.Blue, .int .u8 y42.Initial.Color.Alpha, .slice (yg16 10 0).a y42.Words.length (yg16 10 0).c, .slice (yg16 10 1).a y42.Kinds.length (yg16 10 1).c, .bool y42.Least]⟩ by simp only [h10]), (show ([Ent.own 9 tS y42.Words ((updC yg16 i g) 10 0), Ent.own 5 (tI .u8) y42.Kinds ((updC yg16 i g) 10 1)] : List Ent) = [Ent.own 9 tS y42.Words (yg16 10 0), Ent.own 5 (tI .u8) y42.Kinds (yg16 10 1)] by simp only [h10])⟩), (fun _ _ _ _ => ⟨rfl, rfl⟩), (fun yg16 i g hi => by have h12 : updC yg16 i g 12 = yg16 12 := updC_out hi rfl; exact ⟨(show (.agg ⟨[.string ⟨⟨y48.Name⟩⟩, .bool y48.Inherited, .int .u8 y48.Initial.Kind, .string ⟨⟨y48.Initial.Word⟩⟩, .int .i64 y48.Initial.Num, .int .u8 y48.Initial.Color.Red, .int .u8 y48.Initial.Color.Green, .int .u8 y48.Initial.Color.Blue, .int .u8 y48.Initial.Color.Alpha, .slice ((updC yg16 i g) 12 0).a y48.Words.length ((updC yg16 i g) 12 0).c, .slice ((updC yg16 i g) 12 1).a y48.Kinds.length ((updC yg16 i g) 12 1).c, .bool y48.Least]⟩ : Value) = .agg ⟨[.string ⟨⟨y48.Name⟩⟩, .bool y48.Inherited, .int .u8 y48.Initial.Kind, .string ⟨⟨y48.Initial.Word⟩⟩, .int .i64 y48.Initial.Num, .int .u8 y48.Initial.Color.Red, .int .u8 y48.Initial.Color.Green, .int .u8 y48.Initial.Color.Blue, .int .u8 y48.Initial.Color.Alpha, .slice (yg16 12 0).a y48.Words.length (yg16 12 0).c, .slice (yg16 12 1).a y48.Kinds.length (yg16 12 1).c, .bool y48.Least]⟩ by simp only [h12]), (show ([Ent.own 9 tS y48.Words ((updC yg16 i g) 12 0), Ent.own 5 (tI .u8) y48.Kinds ((updC yg16 i g) 12 1), Ent.im (tI .u8) ([] : List Int) (.nil)] : List Ent) = [Ent.own 9 tS y48.Words (yg16 12 0), Ent.own 5 (tI .u8) y48.Kinds (yg16 12 1), Ent.im (tI .u8) ([] : List Int) (.nil)] by simp only [h12])⟩), (fun _ _ _ _ => ⟨rfl, rfl⟩), (fun yg16 i g hi => by have h14 : updC yg16 i g 14 = yg16 14 := updC_out hi rfl; exact ⟨(show (.agg ⟨[.string ⟨⟨y54.Name⟩⟩, .bool y54.Inherited, .int .u8 y54.Initial.Kind, .string ⟨⟨y54.Initial.Word⟩⟩, .int .i64 y54.Initial.Num, .int .u8 y54.Initial.Color.Red, .int .u8 y54.Initial.Color.Green, .int .u8 y54.Initial.Color.Blue, .int .u8 y54.Initial.Color.Alpha, .slice ((updC yg16 i g) 14 0).a y54.Words.length ((updC yg16 i g) 14 0).c, .slice ((updC yg16 i g) 14 1).a y54.Kinds.length ((updC yg16 i g) 14 1).c, .bool y54.Least]⟩ : Value) = .agg ⟨[.string ⟨⟨y54.Name⟩⟩, .bool y54.Inherited, .int .u8 y54.Initial.Kind, .string ⟨⟨y54.Initial.Word⟩⟩, .int .i64 y54.Initial.Num, .int .u8 y54.Initial.Color.Red, .int .u8 y54.Initial.Color.Green, .int .u8 y54.Initial.Color.Blue, .int .u8 y54.Initial.Color.Alpha, .slice (yg16 14 0).a y54.Words.length (yg16 14 0).c, .slice (yg16 14 1).a y54.Kinds.length (yg16 14 1).c, .bool y54.Least]⟩ by simp only [h14]), (show ([Ent.own 9 tS y54.Words ((updC yg16 i g) 14 0), Ent.own 5 (tI .u8) y54.Kinds ((updC yg16 i g) 14 1), Ent.im (tI .u8) ([] : List Int) (.nil)] : List Ent) = [Ent.own 9 tS y54.Words (yg16 14 0), Ent.own 5 (tI .u8) y54.Kinds (yg16 14 1), Ent.im (tI .u8) ([] : List Int) (.nil)] by simp only [h14])⟩), (fun yg16 i g hi => by have h2 : updC yg16 i g 2 = yg16 2 := updC_out hi rfl; have h4 : updC yg16 i g 4 = yg16 4 := updC_out hi rfl; have h6 : updC yg16 i g 6 = yg16 6 := updC_out hi rfl; have h8 : updC yg16 i g 8 = yg16 8 := updC_out hi rfl; have h9 : updC yg16 i g 9 = yg16 9 := updC_out hi rfl; have h10 : updC yg16 i g 10 = yg16 10 := updC_out hi rfl; have h12 : updC yg16 i g 12 = yg16 12 := updC_out hi rfl; have h14 : updC yg16 i g 14 = yg16 14 := updC_out hi rfl; have h15 : updC yg16 i g 15 = yg16 15 := updC_out hi rfl; exact ⟨(show (.slice ((updC yg16 i g) 15 0).a 8 ((updC yg16 i g) 15 0).c : Value) = .slice (yg16 15 0).a 8 (yg16 15 0).c by simp only [h15]), (show ([Ent.own 68 tyProp ([y17, y22, y27, y32, y37, y42, y48, y54] : List TProp) ((updC yg16 i g) 15 0), Ent.im (tI .u8) y54.Kinds ((updC yg16 i g) 14 1), Ent.im tS y54.Words ((updC yg16 i g) 14 0), Ent.im (tI .u8) y48.Kinds ((updC yg16 i g) 12 1), Ent.im tS y48.Words ((updC yg16 i g) 12 0), Ent.im (tI .u8) y42.Kinds ((updC yg16 i g) 10 1), Ent.im tS y42.Words ((updC yg16 i g) 10 0), Ent.im (tI .u8) y37.Kinds ((updC yg16 i g) 9 1), Ent.im tS y37.Words ((updC yg16 i g) 9 0), Ent.im (tI .u8) y32.Kinds ((updC yg16 i g) 8 1), Ent.im tS y32.Words ((updC yg16 i g) 8 0), Ent.im (tI .u8) y27.Kinds ((updC yg16 i g) 6 1), Ent.im tS y27.Words ((updC yg16 i g) 6 0), Ent.im (tI .u8) y22.Kinds ((updC yg16 i g) 4 1), Ent.im tS y22.Words ((updC yg16 i g) 4 0), Ent.im (tI .u8) y17.Kinds ((updC yg16 i g) 2 1), Ent.im tS y17.Words ((updC yg16 i g) 2 0), Ent.im (tI .u8) ([] : List Int) (.nil), Ent.im (tI .u8) ([] : List Int) (.nil)] : List Ent) = [Ent.own 68 tyProp ([y17, y22, y27, y32, y37, y42, y48, y54] : List TProp) (yg16 15 0), Ent.im (tI .u8) y54.Kinds (yg16 14 1), Ent.im tS y54.Words (yg16 14 0), Ent.im (tI .u8) y48.Kinds (yg16 12 1), Ent.im tS y48.Words (yg16 12 0), Ent.im (tI .u8) y42.Kinds (yg16 10 1), Ent.im tS y42.Words (yg16 10 0), Ent.im (tI .u8) y37.Kinds (yg16 9 1), Ent.im tS y37.Words (yg16 9 0), Ent.im (tI .u8) y32.Kinds (yg16 8 1), Ent.im tS y32.Words (yg16 8 0), Ent.im (tI .u8) y27.Kinds (yg16 6 1), Ent.im tS y27.Words (yg16 6 0), Ent.im (tI .u8) y22.Kinds (yg16 4 1), Ent.im tS y22.Words (yg16 4 0), Ent.im (tI .u8) y17.Kinds (yg16 2 1), Ent.im tS y17.Words (yg16 2 0), Ent.im (tI .u8) ([] : List Int) (.nil), Ent.im (tI .u8) ([] : List Int) (.nil)] by simp only [h2, h4, h6, h8, h9, h10, h12, h14, h15])⟩), (fun yg16 i g hi => by have h15 : updC yg16 i g 15 = yg16 15 := updC_out hi rfl; exact ⟨(show (.slice ((updC yg16 i g) 15 0).a 8 ((updC yg16 i g) 15 0).c : Value) = .slice (yg16 15 0).a 8 (yg16 15 0).c by simp only [h15]), (show ([] : List Ent) = [] by simp only [])⟩), trivial⟩
 case hstep_yg16 =>
  refine ⟨?_, ?_, ?_, ?_, ?_, ?_, ?_, ?_, ?_, ?_, ?_, ?_, ?_, ?_, ?_, ?_, ?_, trivial⟩
  ·intro o ho a w yg16 M Hb hv hO hS0
   obtain rfl := Option.some.inj ho
   have H : Fr 57 ([] ++ [(1, [], .pointer (some ⟨b6, 0, none⟩)), (2, [], .pointer (some ⟨b9, 0, none⟩))]) _ := Hb
   obtain ⟨X, hX⟩ : ∃ X, X = fpl [] := ⟨_, rfl⟩
   have hS : SH M X w [] w := by rw [hX]; exact hS0
   refine Stp.mono (o_evs [] (.agg ⟨[.int .u8 0, .int .u8 0, .int .u8 0, .int .u8 255]⟩) none [] H rfl (by kernel_rfl) (fun q e => by cases e)) ?_
   rintro v w2 ⟨rfl, hq⟩
   replace hS : SH M X w [] _ := hS.below hq.below
   rw [hX] at hS
   exact ⟨gL [], fun _ _ => rfl, hS.sel [] rfl⟩
  ·intro o ho a w yg16 M Hb hv hO hS0
   obtain rfl := Option.some.inj ho
   have H : Fr 57 ([(8, [], .agg ⟨[.int .u8 0, .int .u8 0, .int .u8 0, .int .u8 255]⟩)] ++ [(1, [], .pointer (some ⟨b6, 0, none⟩)), (2, [], .pointer (some ⟨b9, 0, none⟩))]) _ := (Hb).add (hv 0 (by decide) (by decide) 8 rfl)
   obtain ⟨X, hX⟩ : ∃ X, X = fpl [] := ⟨_, rfl⟩
   have hS : SH M X w [] w := by rw [hX]; exact hS0
   refine Stp.mono (o_evs [] (.agg ⟨[.int .u8 7, .string ⟨⟨[]⟩⟩, .int .i64 0, .int .u8 0, .int .u8 0, .int .u8 0, .int .u8 255]⟩) none [] H rfl (by kernel_rfl) (fun q e => by cases e)) ?_
   rintro v w2 ⟨rfl, hq⟩
   replace hS : SH M X w [] _ := hS.below hq.below
   rw [hX] at hS
   exact ⟨gL [], fun _ _ => rfl, hS.sel [] rfl⟩
  ·intro o ho a w yg16 M Hb hv hO hS0
   obtain rfl := Option.some.inj ho
   have H : Fr 57 ([(9, [], .agg ⟨[.int .u8 7, .string ⟨⟨[]⟩⟩, .int .i64 0, .int .u8 0, .int .u8 0, .int .u8 0, .int .u8 255]⟩)] ++ [(1, [], .pointer (some ⟨b6, 0, none⟩)), (2, [], .pointer (some ⟨b9, 0, none⟩))]) _ := (Hb).add (hv 1 (by decide) (by decide) 9 rfl)
   obtain ⟨X, hX⟩ : ∃ X, X = fpl [] := ⟨_, rfl⟩
   have hS : SH M X w [] w := by rw [hX]; exact hS0
   have hd := hS.hand [] [] rfl rfl
   refine Stp.mono (o_callx H rfl rfl (props_color_ok _ _ _ _ hy17.symm _ _ hd)) ?_
   rintro v w2 hq
   obtain ⟨g18, g20, rfl, hq⟩ := hq
   replace hS : SH M X w [Ent.own 9 tS y17.Words g18, Ent.own 5 (tI .u8) y17.Kinds g20] _ := hS.join [] [] rfl rfl hq
   clear hq
   rw [hX] at hS
   exact ⟨gL [g18, g20], fun _ _ => rfl, hS.sel [0, 1] rfl⟩
  ·intro o ho a w yg16 M Hb hv hO hS0
   obtain rfl := Option.some.inj ho
   have H : Fr 57 ([] ++ [(1, [], .pointer (some ⟨b6, 0, none⟩)), (2, [], .pointer (some ⟨b9, 0, none⟩))]) _ := Hb
   obtain ⟨X, hX⟩ : ∃ X, X = fpl [] := ⟨_, rfl⟩
   have hS : SH M X w [] w := by rw [hX]; exact hS0
   refine Stp.mono (o_evs [] (.agg ⟨[.int .u8 7, .string ⟨⟨[]⟩⟩, .int .i64 0, .int .u8 0, .int .u8 0, .int .u8 0, .int .u8 0]⟩) none [] H rfl (by kernel_rfl) (fun q e => by cases e)) ?_
   rintro v w2 ⟨rfl, hq⟩
   replace hS : SH M X w [] _ := hS.below hq.below
   rw [hX] at hS
   exact ⟨gL [], fun _ _ => rfl, hS.sel [] rfl⟩
  ·intro o ho a w yg16 M Hb hv hO hS0
   obtain rfl := Option.some.inj ho
   have H : Fr 57 ([(11, [], .agg ⟨[.int .u8 7, .string ⟨⟨[]⟩⟩, .int .i64 0, .int .u8 0, .int .u8 0, .int .u8 0, .int .u8 0]⟩)] ++ [(1, [], .pointer (some ⟨b6, 0, none⟩)), (2, [], .pointer (some ⟨b9, 0, none⟩))]) _ := (Hb).add (hv 3 (by decide) (by decide) 11 rfl)
   obtain ⟨X, hX⟩ : ∃ X, X = fpl [] := ⟨_, rfl⟩
   have hS : SH M X w [] w := by rw [hX]; exact hS0
   have hd := hS.hand [] [] rfl rfl
   refine Stp.mono (o_callx H rfl rfl (props_color_ok _ _ _ _ hy22.symm _ _ hd)) ?_
   rintro v w2 hq
   obtain ⟨g23, g25, rfl, hq⟩ := hq
   replace hS : SH M X w [Ent.own 9 tS y22.Words g23, Ent.own 5 (tI .u8) y22.Kinds g25] _ := hS.join [] [] rfl rfl hq
   clear hq
   rw [hX] at hS
   exact ⟨gL [g23, g25], fun _ _ => rfl, hS.sel [0, 1] rfl⟩
  ·intro o ho a w yg16 M Hb hv hO hS0
   obtain rfl := Option.some.inj ho
   have H : Fr 57 ([] ++ [(1, [], .pointer (some ⟨b6, 0, none⟩)), (2, [], .pointer (some ⟨b9, 0, none⟩))]) _ := Hb
   obtain ⟨X, hX⟩ : ∃ X, X = fpl [] := ⟨_, rfl⟩
   have hS : SH M X w [] w := by rw [hX]; exact hS0
   refine Stp.mono (o_evs [] (.agg ⟨[.int .u8 8, .string ⟨⟨[]⟩⟩, .int .i64 0, .int .u8 0, .int .u8 0, .int .u8 0, .int .u8 0]⟩) none [] H rfl (by kernel_rfl) (fun q e => by cases e)) ?_
   rintro v w2 ⟨rfl, hq⟩
   replace hS : SH M X w [] _ := hS.below hq.below
   rw [hX] at hS
   exact ⟨gL [], fun _ _ => rfl, hS.sel [] rfl⟩
  ·intro o ho a w yg16 M Hb hv hO hS0
   obtain rfl := Option.some.inj ho
   have H : Fr 57 ([(13, [], .agg ⟨[.int .u8 8, .string ⟨⟨[]⟩⟩, .int .i64 0, .int .u8 0, .int .u8 0, .int .u8 0, .int .u8 0]⟩)] ++ [(1, [], .pointer (some ⟨b6, 0, none⟩)), (2, [], .pointer (some ⟨b9, 0, none⟩))]) _ := (Hb).add (hv 5 (by decide) (by decide) 13 rfl)
   obtain ⟨X, hX⟩ : ∃ X, X = fpl [] := ⟨_, rfl⟩
   have hS : SH M X w [] w := by rw [hX]; exact hS0
   have hd := hS.hand [] [] rfl rfl
   refine Stp.mono (o_callx H rfl rfl (props_color_ok _ _ _ _ hy27.symm _ _ hd)) ?_
   rintro v w2 hq
   obtain ⟨g28, g30, rfl, hq⟩ := hq
   replace hS : SH M X w [Ent.own 9 tS y27.Words g28, Ent.own 5 (tI .u8) y27.Kinds g30] _ := hS.join [] [] rfl rfl hq
   clear hq
   rw [hX] at hS
   exact ⟨gL [g28, g30], fun _ _ => rfl, hS.sel [0, 1] rfl⟩
  ·intro o ho a w yg16 M Hb hv hO hS0
   obtain rfl := Option.some.inj ho
   have H : Fr 57 ([] ++ [(1, [], .pointer (some ⟨b6, 0, none⟩)), (2, [], .pointer (some ⟨b9, 0, none⟩))]) _ := Hb
   obtain ⟨X, hX⟩ : ∃ X, X = fpl [] := ⟨_, rfl⟩
   have hS : SH M X w [] w := by rw [hX]; exact hS0
   refine Stp.mono (o_evs [] (.agg ⟨[.int .u8 8, .string ⟨⟨[]⟩⟩, .int .i64 0, .int .u8 0, .int .u8 0, .int .u8 0, .int .u8 0]⟩) none [] H rfl (by kernel_rfl) (fun q e => by cases e)) ?_
   rintro v w2 ⟨rfl, hq⟩
   replace hS : SH M X w [] _ := hS.below hq.below
   rw [hX] at hS
   exact ⟨gL [], fun _ _ => rfl, hS.sel [] rfl⟩
  ·intro o ho a w yg16 M Hb hv hO hS0
   obtain rfl := Option.some.inj ho
   have H : Fr 57 ([(15, [], .agg ⟨[.int .u8 8, .string ⟨⟨[]⟩⟩, .int .i64 0, .int .u8 0, .int .u8 0, .int .u8 0, .int .u8 0]⟩)] ++ [(1, [], .pointer (some ⟨b6, 0, none⟩)), (2, [], .pointer (some ⟨b9, 0, none⟩))]) _ := (Hb).add (hv 7 (by decide) (by decide) 15 rfl)
   obtain ⟨X, hX⟩ : ∃ X, X = fpl [] := ⟨_, rfl⟩
   have hS : SH M X w [] w := by rw [hX]; exact hS0
   have hd := hS.hand [] [] rfl rfl
   refine Stp.mono (o_callx H rfl rfl (props_color_ok _ _ _ _ hy32.symm _ _ hd)) ?_
   rintro v w2 hq
   obtain ⟨g33, g35, rfl, hq⟩ := hq
   replace hS : SH M X w [Ent.own 9 tS y32.Words g33, Ent.own 5 (tI .u8) y32.Kinds g35] _ := hS.join [] [] rfl rfl hq
   clear hq
   rw [hX] at hS
   exact ⟨gL [g33, g35], fun _ _ => rfl, hS.sel [0, 1] rfl⟩
  ·intro o ho a w yg16 M Hb hv hO hS0
   obtain rfl := Option.some.inj ho
   have H : Fr 57 ([] ++ [(1, [], .pointer (some ⟨b6, 0, none⟩)), (2, [], .pointer (some ⟨b9, 0, none⟩))]) _ := Hb
   obtain ⟨X, hX⟩ : ∃ X, X = fpl [gE0] := ⟨_, rfl⟩
   have hS : SH M X w [gE0] w := by rw [hX]; exact hS0
   have hd := hS.hand [0] [0] rfl rfl
   refine Stp.mono (o_callx H rfl rfl (props_words_ok m _ _ _ _ _ hy37 _ _ hd)) ?_
   rintro v w2 hq
   obtain ⟨g38, g40, rfl, hq⟩ := hq
   replace hS : SH M X w [Ent.own 9 tS y37.Words g38, Ent.own 5 (tI .u8) y37.Kinds g40, gE0] _ := hS.join [0] [0] rfl rfl hq
   clear hq
   rw [hX] at hS
   exact ⟨gL [g38, g40], fun _ _ => rfl, hS.sel [0, 1, 2] rfl⟩
  ·intro o ho a w yg16 M Hb hv hO hS0
   obtain rfl := Option.some.inj ho
   have H : Fr 57 ([] ++ [(1, [], .pointer (some ⟨b6, 0, none⟩)), (2, [], .pointer (some ⟨b9, 0, none⟩))]) _ := Hb
   obtain ⟨X, hX⟩ : ∃ X, X = fpl [gE0] := ⟨_, rfl⟩
   have hS : SH M X w [gE0] w := by rw [hX]; exact hS0
   have hd := hS.hand [0] [0] rfl rfl
   refine Stp.mono (o_callx H rfl rfl (props_words_ok m _ _ _ _ _ hy42 _ _ hd)) ?_
   rintro v w2 hq
   obtain ⟨g43, g45, rfl, hq⟩ := hq
   replace hS : SH M X w [Ent.own 9 tS y42.Words g43, Ent.own 5 (tI .u8) y42.Kinds g45, gE0] _ := hS.join [0] [0] rfl rfl hq
   clear hq
   rw [hX] at hS
   exact ⟨gL [g43, g45], fun _ _ => rfl, hS.sel [0, 1, 2] rfl⟩
  ·intro o ho a w yg16 M Hb hv hO hS0
   obtain rfl := Option.some.inj ho
   have H : Fr 57 ([] ++ [(1, [], .pointer (some ⟨b6, 0, none⟩)), (2, [], .pointer (some ⟨b9, 0, none⟩))]) _ := Hb
   obtain ⟨X, hX⟩ : ∃ X, X = fpl [Ent.blk b6 [.int .u8 y3.Kind, .string ⟨⟨y3.Word⟩⟩, .int .i64 y3.Num, .int .u8 y3.Color.Red, .int .u8 y3.Color.Green, .int .u8 y3.Color.Blue, .int .u8 y3.Color.Alpha]] := ⟨_, rfl⟩
   have hS : SH M X w [Ent.blk b6 [.int .u8 y3.Kind, .string ⟨⟨y3.Word⟩⟩, .int .i64 y3.Num, .int .u8 y3.Color.Red, .int .u8 y3.Color.Green, .int .u8 y3.Color.Blue, .int .u8 y3.Color.Alpha]] w := by rw [hX]; exact hS0
   refine Stp.mono (o_evs [(.agg ⟨[.int .u8 y3.Kind, .string ⟨⟨y3.Word⟩⟩, .int .i64 y3.Num, .int .u8 y3.Color.Red, .int .u8 y3.Color.Green, .int .u8 y3.Color.Blue, .int .u8 y3.Color.Alpha]⟩)] (.agg ⟨[.int .u8 y3.Kind, .string ⟨⟨y3.Word⟩⟩, .int .i64 y3.Num, .int .u8 y3.Color.Red, .int .u8 y3.Color.Green, .int .u8 y3.Color.Blue, .int .u8 y3.Color.Alpha]⟩) (some (fun wz => V.atN b6 0 [.int .u8 y3.Kind, .string ⟨⟨y3.Word⟩⟩, .int .i64 y3.Num, .int .u8 y3.Color.Red, .int .u8 y3.Color.Green, .int .u8 y3.Color.Blue, .int .u8 y3.Color.Alpha] 0 wz)) [] H rfl (by kernel_rfl) (fun q e => by cases e; exact ((hS.bk 0 rfl).atD rfl))) ?_
   rintro v w2 ⟨rfl, hq⟩
   replace hS : SH M X w [Ent.blk b6 [.int .u8 y3.Kind, .string ⟨⟨y3.Word⟩⟩, .int .i64 y3.Num, .int .u8 y3.Color.Red, .int .u8 y3.Color.Green, .int .u8 y3.Color.Blue, .int .u8 y3.Color.Alpha]] _ := hS.below hq.below
   rw [hX] at hS
   exact ⟨gL [], fun _ _ => rfl, hS.sel [0] rfl⟩
  ·intro o ho a w yg16 M Hb hv hO hS0
   obtain rfl := Option.some.inj ho
   have H : Fr 57 ([(19, [], .agg ⟨[.int .u8 y3.Kind, .string ⟨⟨y3.Word⟩⟩, .int .i64 y3.Num, .int .u8 y3.Color.Red, .int .u8 y3.Color.Green, .int .u8 y3.Color.Blue, .int .u8 y3.Color.Alpha]⟩)] ++ [(1, [], .pointer (some ⟨b6, 0, none⟩)), (2, [], .pointer (some ⟨b9, 0, none⟩))]) _ := (Hb).add (hv 11 (by decide) (by decide) 19 rfl)
   obtain ⟨X, hX⟩ : ∃ X, X = fpl [gE0] := ⟨_, rfl⟩
   have hS : SH M X w [gE0] w := by rw [hX]; exact hS0
   replace hS : SH M X w [Ent.own 5 (tI .u8) ([] : List Int) (.nil), gE0] _ := hS.addNil 5 (tI .u8)
   replace hS : SH M X w [Ent.im (tI .u8) ([] : List Int) (.nil), gE0] _ := SH.frz1 (hS.sel [0, 1] rfl)
   have hd := hS.hand [0, 1] [0, 1] rfl rfl
   refine Stp.mono (o_callx H rfl rfl (props_length_ok (g_more := Gh.nil) m _ _ _ _ _ _ _ hy48 _ _ hd)) ?_
   rintro v w2 hq
   obtain ⟨g49, g51, rfl, hq⟩ := hq
   replace hS : SH M X w [Ent.own 9 tS y48.Words g49, Ent.own 5 (tI .u8) y48.Kinds g51, Ent.im (tI .u8) ([] : List Int) (.nil), gE0] _ := hS.join [0, 1] [0, 1] rfl rfl hq
   clear hq
   rw [hX] at hS
   exact ⟨gL [g49, g51], fun _ _ => rfl, hS.sel [0, 1, 2, 3] rfl⟩
  ·intro o ho a w yg16 M Hb hv hO hS0
   obtain rfl := Option.some.inj ho
   have H : Fr 57 ([] ++ [(1, [], .pointer (some ⟨b6, 0, none⟩)), (2, [], .pointer (some ⟨b9, 0, none⟩))]) _ := Hb
   obtain ⟨X, hX⟩ : ∃ X, X = fpl [Ent.blk b6 [.int .u8 y3.Kind, .string ⟨⟨y3.Word⟩⟩, .int .i64 y3.Num, .int .u8 y3.Color.Red, .int .u8 y3.Color.Green, .int .u8 y3.Color.Blue, .int .u8 y3.Color.Alpha]] := ⟨_, rfl⟩
   have hS : SH M X w [Ent.blk b6 [.int .u8 y3.Kind, .string ⟨⟨y3.Word⟩⟩, .int .i64 y3.Num, .int .u8 y3.Color.Red, .int .u8 y3.Color.Green, .int .u8 y3.Color.Blue, .int .u8 y3.Color.Alpha]] w := by rw [hX]; exact hS0
   refine Stp.mono (o_evs [(.agg ⟨[.int .u8 y3.Kind, .string ⟨⟨y3.Word⟩⟩, .int .i64 y3.Num, .int .u8 y3.Color.Red, .int .u8 y3.Color.Green, .int .u8 y3.Color.Blue, .int .u8 y3.Color.Alpha]⟩)] (.agg ⟨[.int .u8 y3.Kind, .string ⟨⟨y3.Word⟩⟩, .int .i64 y3.Num, .int .u8 y3.Color.Red, .int .u8 y3.Color.Green, .int .u8 y3.Color.Blue, .int .u8 y3.Color.Alpha]⟩) (some (fun wz => V.atN b6 0 [.int .u8 y3.Kind, .string ⟨⟨y3.Word⟩⟩, .int .i64 y3.Num, .int .u8 y3.Color.Red, .int .u8 y3.Color.Green, .int .u8 y3.Color.Blue, .int .u8 y3.Color.Alpha] 0 wz)) [] H rfl (by kernel_rfl) (fun q e => by cases e; exact ((hS.bk 0 rfl).atD rfl))) ?_
   rintro v w2 ⟨rfl, hq⟩
   replace hS : SH M X w [Ent.blk b6 [.int .u8 y3.Kind, .string ⟨⟨y3.Word⟩⟩, .int .i64 y3.Num, .int .u8 y3.Color.Red, .int .u8 y3.Color.Green, .int .u8 y3.Color.Blue, .int .u8 y3.Color.Alpha]] _ := hS.below hq.below
   rw [hX] at hS
   exact ⟨gL [], fun _ _ => rfl, hS.sel [0] rfl⟩
  ·intro o ho a w yg16 M Hb hv hO hS0
   obtain rfl := Option.some.inj ho
   have H : Fr 57 ([(21, [], .agg ⟨[.int .u8 y3.Kind, .string ⟨⟨y3.Word⟩⟩, .int .i64 y3.Num, .int .u8 y3.Color.Red, .int .u8 y3.Color.Green, .int .u8 y3.Color.Blue, .int .u8 y3.Color.Alpha]⟩)] ++ [(1, [], .pointer (some ⟨b6, 0, none⟩)), (2, [], .pointer (some ⟨b9, 0, none⟩))]) _ := (Hb).add (hv 13 (by decide) (by decide) 21 rfl)
   obtain ⟨X, hX⟩ : ∃ X, X = fpl [gE0] := ⟨_, rfl⟩
   have hS : SH M X w [gE0] w := by rw [hX]; exact hS0
   replace hS : SH M X w [Ent.own 5 (tI .u8) ([] : List Int) (.nil), gE0] _ := hS.addNil 5 (tI .u8)
   replace hS : SH M X w [Ent.im (tI .u8) ([] : List Int) (.nil), gE0] _ := SH.frz1 (hS.sel [0, 1] rfl)
   have hd := hS.hand [0, 1] [0, 1] rfl rfl
   refine Stp.mono (o_callx H rfl rfl (props_length_ok (g_more := Gh.nil) m _ _ _ _ _ _ _ hy54 _ _ hd)) ?_
   rintro v w2 hq
   obtain ⟨g55, g57, rfl, hq⟩ := hq
   replace hS : SH M X w [Ent.own 9 tS y54.Words g55, Ent.own 5 (tI .u8) y54.Kinds g57, Ent.im (tI .u8) ([] : List Int) (.nil), gE0] _ := hS.join [0, 1] [0, 1] rfl rfl hq
   clear hq
   rw [hX] at hS
   exact ⟨gL [g55, g57], fun _ _ => rfl, hS.sel [0, 1, 2, 3] rfl⟩
  ·intro o ho a w yg16 M Hb hv hO hS0
   obtain rfl := Option.some.inj ho
   have H : Fr 57 ([(22, [], .agg ⟨[.string ⟨⟨y54.Name⟩⟩, .bool y54.Inherited, .int .u8 y54.Initial.Kind, .string ⟨⟨y54.Initial.Word⟩⟩, .int .i64 y54.Initial.Num, .int .u8 y54.Initial.Color.Red, .int .u8 y54.Initial.Color.Green, .int .u8 y54.Initial.Color.Blue, .int .u8 y54.Initial.Color.Alpha, .slice (yg16 14 0).a y54.Words.length (yg16 14 0).c, .slice (yg16 14 1).a y54.Kinds.length (yg16 14 1).c, .bool y54.Least]⟩), (20, [], .agg ⟨[.string ⟨⟨y48.Name⟩⟩, .bool y48.Inherited, .int .u8 y48.Initial.Kind, .string ⟨⟨y48.Initial.Word⟩⟩, .int .i64 y48.Initial.Num, .int .u8 y48.Initial.Color.Red, .int .u8 y48.Initial.Color.Green, .int .u8 y48.Initial.Color.Blue, .int .u8 y48.Initial.Color.Alpha, .slice (yg16 12 0).a y48.Words.length (yg16 12 0).c, .slice (yg16 12 1).a y48.Kinds.length (yg16 12 1).c, .bool y48.Least]⟩), (18, [], .agg ⟨[.string ⟨⟨y42.Name⟩⟩, .bool y42.Inherited, .int .u8 y42.Initial.Kind, .string ⟨⟨y42.Initial.Word⟩⟩, .int .i64 y42.Initial.Num, .int .u8 y42.Initial.Color.Red, .int .u8 y42.Initial.Color.Green, .int .u8 y42.Initial.Color.Blue, .int .u8 y42.Initial.Color.Alpha, .slice (yg16 10 0).a y42.Words.length (yg16 10 0).c, .slice (yg16 10 1).a y42.Kinds.length (yg16 10 1).c, .bool y42.Least]⟩), (17, [], .agg ⟨[.string ⟨⟨y37.Name⟩⟩, .bool y37.Inherited, .int .u8 y37.Initial.Kind, .string ⟨⟨y37.Initial.Word⟩⟩, .int .i64 y37.Initial.Num, .int .u8 y37.Initial.Color.Red, .int .u8 y37.Initial.Color.Green, .int .u8 y37.Initial.Color.Blue, .int .u8 y37.Initial.Color.Alpha, .slice (yg16 9 0).a y37.Words.length (yg16 9 0).c, .slice (yg16 9 1).a y37.Kinds.length (yg16 9 1).c, .bool y37.Least]⟩), (16, [], .agg ⟨[.string ⟨⟨y32.Name⟩⟩, .bool y32.Inherited, .int .u8 y32.Initial.Kind, .string ⟨⟨y32.Initial.Word⟩⟩, .int .i64 y32.Initial.Num, .int .u8 y32.Initial.Color.Red, .int .u8 y32.Initial.Color.Green, .int .u8 y32.Initial.Color.Blue, .int .u8 y32.Initial.Color.Alpha, .slice (yg16 8 0).a y32.Words.length (yg16 8 0).c, .slice (yg16 8 1).a y32.Kinds.length (yg16 8 1).c, .bool y32.Least]⟩), (14, [], .agg ⟨[.string ⟨⟨y27.Name⟩⟩, .bool y27.Inherited, .int .u8 y27.Initial.Kind, .string ⟨⟨y27.Initial.Word⟩⟩, .int .i64 y27.Initial.Num, .int .u8 y27.Initial.Color.Red, .int .u8 y27.Initial.Color.Green, .int .u8 y27.Initial.Color.Blue, .int .u8 y27.Initial.Color.Alpha, .slice (yg16 6 0).a y27.Words.length (yg16 6 0).c, .slice (yg16 6 1).a y27.Kinds.length (yg16 6 1).c, .bool y27.Least]⟩), (12, [], .agg ⟨[.string ⟨⟨y22.Name⟩⟩, .bool y22.Inherited, .int .u8 y22.Initial.Kind, .string ⟨⟨y22.Initial.Word⟩⟩, .int .i64 y22.Initial.Num, .int .u8 y22.Initial.Color.Red, .int .u8 y22.Initial.Color.Green, .int .u8 y22.Initial.Color.Blue, .int .u8 y22.Initial.Color.Alpha, .slice (yg16 4 0).a y22.Words.length (yg16 4 0).c, .slice (yg16 4 1).a y22.Kinds.length (yg16 4 1).c, .bool y22.Least]⟩), (10, [], .agg ⟨[.string ⟨⟨y17.Name⟩⟩, .bool y17.Inherited, .int .u8 y17.Initial.Kind, .string ⟨⟨y17.Initial.Word⟩⟩, .int .i64 y17.Initial.Num, .int .u8 y17.Initial.Color.Red, .int .u8 y17.Initial.Color.Green, .int .u8 y17.Initial.Color.Blue, .int .u8 y17.Initial.Color.Alpha, .slice (yg16 2 0).a y17.Words.length (yg16 2 0).c, .slice (yg16 2 1).a y17.Kinds.length (yg16 2 1).c, .bool y17.Least]⟩)] ++ [(1, [], .pointer (some ⟨b6, 0, none⟩)), (2, [], .pointer (some ⟨b9, 0, none⟩))]) _ := ((((((((Hb).add (hv 2 (by decide) (by decide) 10 rfl)).add (hv 4 (by decide) (by decide) 12 rfl)).add (hv 6 (by decide) (by decide) 14 rfl)).add (hv 8 (by decide) (by decide) 16 rfl)).add (hv 9 (by decide) (by decide) 17 rfl)).add (hv 10 (by decide) (by decide) 18 rfl)).add (hv 12 (by decide) (by decide) 20 rfl)).add (hv 14 (by decide) (by decide) 22 rfl)
   obtain ⟨X, hX⟩ : ∃ X, X = fpl [Ent.own 9 tS y17.Words (yg16 2 0), Ent.own 5 (tI .u8) y17.Kinds (yg16 2 1), Ent.own 9 tS y22.Words (yg16 4 0), Ent.own 5 (tI .u8) y22.Kinds (yg16 4 1), Ent.own 9 tS y27.Words (yg16 6 0), Ent.own 5 (tI .u8) y27.Kinds (yg16 6 1), Ent.own 9 tS y32.Words (yg16 8 0), Ent.own 5 (tI .u8) y32.Kinds (yg16 8 1), Ent.own 9 tS y37.Words (yg16 9 0), Ent.own 5 (tI .u8) y37.Kinds (yg16 9 1), Ent.own 9 tS y42.Words (yg16 10 0), Ent.own 5 (tI .u8) y42.Kinds (yg16 10 1), Ent.own 9 tS y48.Words (yg16 12 0), Ent.own 5 (tI .u8) y48.Kinds (yg16 12 1), Ent.im (tI .u8) ([] : List Int) (.nil), Ent.own 9 tS y54.Words (yg16 14 0), Ent.own 5 (tI .u8) y54.Kinds (yg16 14 1), Ent.im (tI .u8) ([] : List Int) (.nil)] := ⟨_, rfl⟩
   have hS : SH M X w [Ent.own 9 tS y17.Words (yg16 2 0), Ent.own 5 (tI .u8) y17.Kinds (yg16 2 1), Ent.own 9 tS y22.Words (yg16 4 0), Ent.own 5 (tI .u8) y22.Kinds (yg16 4 1), Ent.own 9 tS y27.Words (yg16 6 0), Ent.own 5 (tI .u8) y27.Kinds (yg16 6 1), Ent.own 9 tS y32.Words (yg16 8 0), Ent.own 5 (tI .u8) y32.Kinds (yg16 8 1), Ent.own 9 tS y37.Words (yg16 9 0), Ent.own 5 (tI .u8) y37.Kinds (yg16 9 1), Ent.own 9 tS y42.Words (yg16 10 0), Ent.own 5 (tI .u8) y42.Kinds (yg16 10 1), Ent.own 9 tS y48.Words (yg16 12 0), Ent.own 5 (tI .u8) y48.Kinds (yg16 12 1), Ent.im (tI .u8) ([] : List Int) (.nil), Ent.own 9 tS y54.Words (yg16 14 0), Ent.own 5 (tI .u8) y54.Kinds (yg16 14 1), Ent.im (tI .u8) ([] : List Int) (.nil)] w := by rw [hX]; exact hS0
   replace hS : SH M X w [Ent.im tS y17.Words (yg16 2 0), Ent.own 5 (tI .u8) y17.Kinds (yg16 2 1), Ent.own 9 tS y22.Words (yg16 4 0), Ent.own 5 (tI .u8) y22.Kinds (yg16 4 1), Ent.own 9 tS y27.Words (yg16 6 0), Ent.own 5 (tI .u8) y27.Kinds (yg16 6 1), Ent.own 9 tS y32.Words (yg16 8 0), Ent.own 5 (tI .u8) y32.Kinds (yg16 8 1), Ent.own 9 tS y37.Words (yg16 9 0), Ent.own 5 (tI .u8) y37.Kinds (yg16 9 1), Ent.own 9 tS y42.Words (yg16 10 0), Ent.own 5 (tI .u8) y42.Kinds (yg16 10 1), Ent.own 9 tS y48.Words (yg16 12 0), Ent.own 5 (tI .u8) y48.Kinds (yg16 12 1), Ent.im (tI .u8) ([] : List Int) (.nil), Ent.own 9 tS y54.Words (yg16 14 0), Ent.own 5 (tI .u8) y54.Kinds (yg16 14 1), Ent.im (tI .u8) ([] : List Int) (.nil)] _ := SH.frz1 (hS.sel [0, 1, 2, 3, 4, 5, 6, 7, 8, 9, 10, 11, 12, 13, 14, 15, 16, 17] rfl)
   replace hS : SH M X w [Ent.im (tI .u8) y17.Kinds (yg16 2 1), Ent.im tS y17.Words (yg16 2 0), Ent.own 9 tS y22.Words (yg16 4 0), Ent.own 5 (tI .u8) y22.Kinds (yg16 4 1), Ent.own 9 tS y27.Words (yg16 6 0), Ent.own 5 (tI .u8) y27.Kinds (yg16 6 1), Ent.own 9 tS y32.Words (yg16 8 0), Ent.own 5 (tI .u8) y32.Kinds (yg16 8 1), Ent.own 9 tS y37.Words (yg16 9 0), Ent.own 5 (tI .u8) y37.Kinds (yg16 9 1), Ent.own 9 tS y42.Words (yg16 10 0), Ent.own 5 (tI .u8) y42.Kinds (yg16 10 1), Ent.own 9 tS y48.Words (yg16 12 0), Ent.own 5 (tI .u8) y48.Kinds (yg16 12 1), Ent.im (tI .u8) ([] : List Int) (.nil), Ent.own 9 tS y54.Words (yg16 14 0), Ent.own 5 (tI .u8) y54.Kinds (yg16 14 1), Ent.im (tI .u8) ([] : List Int) (.nil)] _ := SH.frz1 (hS.sel [1, 0, 2, 3, 4, 5, 6, 7, 8, 9, 10, 11, 12, 13, 14, 15, 16, 17] rfl)
   replace hS : SH M X w [Ent.im tS y22.Words (yg16 4 0), Ent.im (tI .u8) y17.Kinds (yg16 2 1), Ent.im tS y17.Words (yg16 2 0), Ent.own 5 (tI .u8) y22.Kinds (yg16 4 1), Ent.own 9 tS y27.Words (yg16 6 0), Ent.own 5 (tI .u8) y27.Kinds (yg16 6 1), Ent.own 9 tS y32.Words (yg16 8 0), Ent.own 5 (tI .u8) y32.Kinds (yg16 8 1), Ent.own 9 tS y37.Words (yg16 9 0), Ent.own 5 (tI .u8) y37.Kinds (yg16 9 1), Ent.own 9 tS y42.Words (yg16 10 0), Ent.own 5 (tI .u8) y42.Kinds (yg16 10 1), Ent.own 9 tS y48.Words (yg16 12 0), Ent.own 5 (tI .u8) y48.Kinds (yg16 12 1), Ent.im (tI .u8) ([] : List Int) (.nil), Ent.own 9 tS y54.Words (yg16 14 0), Ent.own 5 (tI .u8) y54.Kinds (yg16 14 1), Ent.im (tI .u8) ([] : List Int) (.nil)] _ := SH.frz1 (hS.sel [2, 0, 1, 3, 4, 5, 6, 7, 8, 9, 10, 11, 12, 13, 14, 15, 16, 17] rfl)
   replace hS : SH M X w [Ent.im (tI .u8) y22.Kinds (yg16 4 1), Ent.im tS y22.Words (yg16 4 0), Ent.im (tI .u8) y17.Kinds (yg16 2 1), Ent.im tS y17.Words (yg16 2 0), Ent.own 9 tS y27.Words (yg16 6 0), Ent.own 5 (tI .u8) y27.Kinds (yg16 6 1), Ent.own 9 tS y32.Words (yg16 8 0), Ent.own 5 (tI .u8) y32.Kinds (yg16 8 1), Ent.own 9 tS y37.Words (yg16 9 0), Ent.own 5 (tI .u8) y37.Kinds (yg16 9 1), Ent.own 9 tS y42.Words (yg16 10 0), Ent.own 5 (tI .u8) y42.Kinds (yg16 10 1), Ent.own 9 tS y48.Words (yg16 12 0), Ent.own 5 (tI .u8) y48.Kinds (yg16 12 1), Ent.im (tI .u8) ([] : List Int) (.nil), Ent.own 9 tS y54.Words (yg16 14 0), Ent.own 5 (tI .u8) y54.Kinds (yg16 14 1), Ent.im (tI .u8) ([] : List Int) (.nil)] _ := SH.frz1 (hS.sel [3, 0, 1, 2, 4, 5, 6, 7, 8, 9, 10, 11, 12, 13, 14, 15, 16, 17] rfl)
   replace hS : SH M X w [Ent.im tS y27.Words (yg16 6 0), Ent.im (tI .u8) y22.Kinds (yg16 4 1), Ent.im tS y22.Words (yg16 4 0), Ent.im (tI .u8) y17.Kinds (yg16 2 1), Ent.im tS y17.Words (yg16 2 0), Ent.own 5 (tI .u8) y27.Kinds (yg16 6 1), Ent.own 9 tS y32.Words (yg16 8 0), Ent.own 5 (tI .u8) y32.Kinds (yg16 8 1), Ent.own 9 tS y37.Words (yg16 9 0), Ent.own 5 (tI .u8) y37.Kinds (yg16 9 1), Ent.own 9 tS y42.Words (yg16 10 0), Ent.own 5 (tI .u8) y42.Kinds (yg16 10 1), Ent.own 9 tS y48.Words (yg16 12 0), Ent.own 5 (tI .u8) y48.Kinds (yg16 12 1), Ent.im (tI .u8) ([] : List Int) (.nil), Ent.own 9 tS y54.Words (yg16 14 0), Ent.own 5 (tI .u8) y54.Kinds (yg16 14 1), Ent.im (tI .u8) ([] : List Int) (.nil)] _ := SH.frz1 (hS.sel [4, 0, 1, 2, 3, 5, 6, 7, 8, 9, 10, 11, 12, 13, 14, 15, 16, 17] rfl)
   replace hS : SH M X w [Ent.im (tI .u8) y27.Kinds (yg16 6 1), Ent.im tS y27.Words (yg16 6 0), Ent.im (tI .u8) y22.Kinds (yg16 4 1), Ent.im tS y22.Words (yg16 4 0), Ent.im (tI .u8) y17.Kinds (yg16 2 1), Ent.im tS y17.Words (yg16 2 0), Ent.own 9 tS y32.Words (yg16 8 0), Ent.own 5 (tI .u8) y32.Kinds (yg16 8 1), Ent.own 9 tS y37.Words (yg16 9 0), Ent.own 5 (tI .u8) y37.Kinds (yg16 9 1), Ent.own 9 tS y42.Words (yg16 10 0), Ent.own 5 (tI .u8) y42.Kinds (yg16 10 1), Ent.own 9 tS y48.Words (yg16 12 0), Ent.own 5 (tI .u8) y48.Kinds (yg16 12 1), Ent.im (tI .u8) ([] : List Int) (.nil), Ent.own 9 tS y54.Words (yg16 14 0), Ent.own 5 (tI .u8) y54.Kinds (yg16 14 1), Ent.im (tI .u8) ([] : List Int) (.nil)] _ := SH.frz1 (hS.sel [5, 0, 1, 2, 3, 4, 6, 7, 8, 9, 10, 11, 12, 13, 14, 15, 16, 17] rfl)
   replace hS : SH M X w [Ent.im tS y32.Words (yg16 8 0), Ent.im (tI .u8) y27.Kinds (yg16 6 1), Ent.im tS y27.Words (yg16 6 0), Ent.im (tI .u8) y22.Kinds (yg16 4 1), Ent.im tS y22.Words (yg16 4 0), Ent.im (tI .u8) y17.Kinds (yg16 2 1), Ent.im tS y17.Words (yg16 2 0), Ent.own 5 (tI .u8) y32.Kinds (yg16 8 1), Ent.own 9 tS y37.Words (yg16 9 0), Ent.own 5 (tI .u8) y37.Kinds (yg16 9 1), Ent.own 9 tS y42.Words (yg16 10 0), Ent.own 5 (tI .u8) y42.Kinds (yg16 10 1), Ent.own 9 tS y48.Words (yg16 12 0), Ent.own 5 (tI .u8) y48.Kinds (yg16 12 1), Ent.im (tI .u8) ([] : List Int) (.nil), Ent.own 9 tS y54.Words (yg16 14 0), Ent.own 5 (tI .u8) y54.Kinds (yg16 14 1), Ent.im (tI .u8) ([] : List Int) (.nil)] _ := SH.frz1 (hS.sel [6, 0, 1, 2, 3, 4, 5, 7, 8, 9, 10, 11, 12, 13, 14, 15, 16, 17] rfl)
   replace hS : SH M X w [Ent.im (tI .u8) y32.Kinds (yg16 8 1), Ent.im tS y32.Words (yg16 8 0), Ent.im (tI .u8) y27.Kinds (yg16 6 1), Ent.im tS y27.Words (yg16 6 0), Ent.im (tI .u8) y22.Kinds (yg16 4 1), Ent.im tS y22.Words (yg16 4 0), Ent.im (tI .u8) y17.Kinds (yg16 2 1), Ent.im tS y17.Words (yg16 2 0), Ent.own 9 tS y37.Words (yg16 9 0), Ent.own 5 (tI .u8) y37.Kinds (yg16 9 1), Ent.own 9 tS y42.Words (yg16 10 0), Ent.own 5 (tI .u8) y42.Kinds (yg16 10 1), Ent.own 9 tS y48.Words (yg16 12 0), Ent.own 5 (tI .u8) y48.Kinds (yg16 12 1), Ent.im (tI .u8) ([] : List Int) (.nil), Ent.own 9 tS y54.Words (yg16 14 0), Ent.own 5 (tI .u8) y54.Kinds (yg16 14 1), Ent.im (tI .u8) ([] : List Int) (.nil)] _ := SH.frz1 (hS.sel [7, 0, 1, 2, 3, 4, 5, 6, 8, 9, 10, 11, 12, 13, 14, 15, 16, 17] rfl)
   replace hS : SH M X w [Ent.im tS y37.Words (yg16 9 0), Ent.im (tI .u8) y32.Kinds (yg16 8 1), Ent.im tS y32.Words (yg16 8 0), Ent.im (tI .u8) y27.Kinds (yg16 6 1), Ent.im tS y27.Words (yg16 6 0), Ent.im (tI .u8) y22.Kinds (yg16 4 1), Ent.im tS y22.Words (yg16 4 0), Ent.im (tI .u8) y17.Kinds (yg16 2 1), Ent.im tS y17.Words (yg16 2 0), Ent.own 5 (tI .u8) y37.Kinds (yg16 9 1), Ent.own 9 tS y42.Words (yg16 10 0), Ent.own 5 (tI .u8) y42.Kinds (yg16 10 1), Ent.own 9 tS y48.Words (yg16 12 0), Ent.own 5 (tI .u8) y48.Kinds (yg16 12 1), Ent.im (tI .u8) ([] : List Int) (.nil), Ent.own 9 tS y54.Words (yg16 14 0), Ent.own 5 (tI .u8) y54.Kinds (yg16 14 1), Ent.im (tI .u8) ([] : List Int) (.nil)] _ := SH.frz1 (hS.sel [8, 0, 1, 2, 3, 4, 5, 6, 7, 9, 10, 11, 12, 13, 14, 15, 16, 17] rfl)
   replace hS : SH M X w [Ent.im (tI .u8) y37.Kinds (yg16 9 1), Ent.im tS y37.Words (yg16 9 0), Ent.im (tI .u8) y32.Kinds (yg16 8 1), Ent.im tS y32.Words (yg16 8 0), Ent.im (tI .u8) y27.Kinds (yg16 6 1), Ent.im tS y27.Words (yg16 6 0), Ent.im (tI .u8) y22.Kinds (yg16 4 1), Ent.im tS y22.Words (yg16 4 0), Ent.im (tI .u8) y17.Kinds (yg16 2 1), Ent.im tS y17.Words (yg16 2 0), Ent.own 9 tS y42.Words (yg16 10 0), Ent.own 5 (tI .u8) y42.Kinds (yg16 10 1), Ent.own 9 tS y48.Words (yg16 12 0), Ent.own 5 (tI .u8) y48.Kinds (yg16 12 1), Ent.im (tI .u8) ([] : List Int) (.nil), Ent.own 9 tS y54.Words (yg16 14 0), Ent.own 5 (tI .u8) y54.Kinds (yg16 14 1), Ent.im (tI .u8) ([] : List Int) (.nil)] _ := SH.frz1 (hS.sel [9, 0, 1, 2, 3, 4, 5, 6, 7, 8, 10, 11, 12, 13, 14, 15, 16, 17] rfl)
   replace hS : SH M X w [Ent.im tS y42.Words (yg16 10 0), Ent.im (tI .u8) y37.Kinds (yg16 9 1), Ent.im tS y37.Words (yg16 9 0), Ent.im (tI .u8) y32.Kinds (yg16 8 1), Ent.im tS y32.Words (yg16 8 0), Ent.im (tI .u8) y27.Kinds (yg16 6 1), Ent.im tS y27.Words (yg16 6 0), Ent.im (tI .u8) y22.Kinds (yg16 4 1), Ent.im tS y22.Words (yg16 4 0), Ent.im (tI .u8) y17.Kinds (yg16 2 1), Ent.im tS y17.Words (yg16 2 0), Ent.own 5 (tI .u8) y42.Kinds (yg16 10 1), Ent.own 9 tS y48.Words (yg16 12 0), Ent.own 5 (tI .u8) y48.Kinds (yg16 12 1), Ent.im (tI .u8) ([] : List Int) (.nil), Ent.own 9 tS y54.Words (yg16 14 0), Ent.own 5 (tI .u8) y54.Kinds (yg16 14 1), Ent.im (tI .u8) ([] : List Int) (.nil)] _ := SH.frz1 (hS.sel [10, 0, 1, 2, 3, 4, 5, 6, 7, 8, 9, 11, 12, 13, 14, 15, 16, 17] rfl)
   replace hS : SH M X w [Ent.im (tI .u8) y42.Kinds (yg16 10 1), Ent.im tS y42.Words (yg16 10 0), Ent.im (tI .u8) y37.Kinds (yg16 9 1), Ent.im tS y37.Words (yg16 9 0), Ent.im (tI .u8) y32.Kinds (yg16 8 1), Ent.im tS y32.Words (yg16 8 0), Ent.im (tI .u8) y27.Kinds (yg16 6 1), Ent.im tS y27.Words (yg16 6 0), Ent.im (tI .u8) y22.Kinds (yg16 4 1), Ent.im tS y22.Words (yg16 4 0), Ent.im (tI .u8) y17.Kinds (yg16 2 1), Ent.im tS y17.Words (yg16 2 0), Ent.own 9 tS y48.Words (yg16 12 0), Ent.own 5 (tI .u8) y48.Kinds (yg16 12 1), Ent.im (tI .u8) ([] : List Int) (.nil), Ent.own 9 tS y54.Words (yg16 14 0), Ent.own 5 (tI .u8) y54.Kinds (yg16 14 1), Ent.im (tI .u8) ([] : List Int) (.nil)] _ := SH.frz1 (hS.sel [11, 0, 1, 2, 3, 4, 5, 6, 7, 8, 9, 10, 12, 13, 14, 15, 16, 17] rfl)
   replace hS : SH M X w [Ent.im tS y48.Words (yg16 12 0), Ent.im (tI .u8) y42.Kinds (yg16 10 1), Ent.im tS y42.Words (yg16 10 0), Ent.im (tI .u8) y37.Kinds (yg16 9 1), Ent.im tS y37.Words (yg16 9 0), Ent.im (tI .u8) y32.Kinds (yg16 8 1), Ent.im tS y32.Words (yg16 8 0), Ent.im (tI .u8) y27.Kinds (yg16 6 1), Ent.im tS y27.Words (yg16 6 0), Ent.im (tI .u8) y22.Kinds (yg16 4 1), Ent.im tS y22.Words (yg16 4 0), Ent.im (tI .u8) y17.Kinds (yg16 2 1), Ent.im tS y17.Words (yg16 2 0), Ent.own 5 (tI .u8) y48.Kinds (yg16 12 1), Ent.im (tI .u8) ([] : List Int) (.nil), Ent.own 9 tS y54.Words (yg16 14 0), Ent.own 5 (tI .u8) y54.Kinds (yg16 14 1), Ent.im (tI .u8) ([] : List Int) (.nil)] _ := SH.frz1 (hS.sel [12, 0, 1, 2, 3, 4, 5, 6, 7, 8, 9, 10, 11, 13, 14, 15, 16, 17] rfl)
   replace hS : SH M X w [Ent.im (tI .u8) y48.Kinds (yg16 12 1), Ent.im tS y48.Words (yg16 12 0), Ent.im (tI .u8) y42.Kinds (yg16 10 1), Ent.im tS y42.Words (yg16 10 0), Ent.im (tI .u8) y37.Kinds (yg16 9 1), Ent.im tS y37.Words (yg16 9 0), Ent.im (tI .u8) y32.Kinds (yg16 8 1), Ent.im tS y32.Words (yg16 8 0), Ent.im (tI .u8) y27.Kinds (yg16 6 1), Ent.im tS y27.Words (yg16 6 0), Ent.im (tI .u8) y22.Kinds (yg16 4 1), Ent.im tS y22.Words (yg16 4 0), Ent.im (tI .u8) y17.Kinds (yg16 2 1), Ent.im tS y17.Words (yg16 2 0), Ent.im (tI .u8) ([] : List Int) (.nil), Ent.own 9 tS y54.Words (yg16 14 0), Ent.own 5 (tI .u8) y54.Kinds (yg16 14 1), Ent.im (tI .u8) ([] : List Int) (.nil)] _ := SH.frz1 (hS.sel [13, 0, 1, 2, 3, 4, 5, 6, 7, 8, 9, 10, 11, 12, 14, 15, 16, 17] rfl)
   replace hS : SH M X w [Ent.im tS y54.Words (yg16 14 0), Ent.im (tI .u8) y48.Kinds (yg16 12 1), Ent.im tS y48.Words (yg16 12 0), Ent.im (tI .u8) y42.Kinds (yg16 10 1), Ent.im tS y42.Words (yg16 10 0), Ent.im (tI .u8) y37.Kinds (yg16 9 1), Ent.im tS y37.Words (yg16 9 0), Ent.im (tI .u8) y32.Kinds (yg16 8 1), Ent.im tS y32.Words (yg16 8 0), Ent.im (tI .u8) y27.Kinds (yg16 6 1), Ent.im tS y27.Words (yg16 6 0), Ent.im (tI .u8) y22.Kinds (yg16 4 1), Ent.im tS y22.Words (yg16 4 0), Ent.im (tI .u8) y17.Kinds (yg16 2 1), Ent.im tS y17.Words (yg16 2 0), Ent.im (tI .u8) ([] : List Int) (.nil), Ent.own 5 (tI .u8) y54.Kinds (yg16 14 1), Ent.im (tI .u8) ([] : List Int) (.nil)] _ := SH.frz1 (hS.sel [15, 0, 1, 2, 3, 4, 5, 6, 7, 8, 9, 10, 11, 12, 13, 14, 16, 17] rfl)
   replace hS : SH M X w [Ent.im (tI .u8) y54.Kinds (yg16 14 1), Ent.im tS y54.Words (yg16 14 0), Ent.im (tI .u8) y48.Kinds (yg16 12 1), Ent.im tS y48.Words (yg16 12 0), Ent.im (tI .u8) y42.Kinds (yg16 10 1), Ent.im tS y42.Words (yg16 10 0), Ent.im (tI .u8) y37.Kinds (yg16 9 1), Ent.im tS y37.Words (yg16 9 0), Ent.im (tI .u8) y32.Kinds (yg16 8 1), Ent.im tS y32.Words (yg16 8 0), Ent.im (tI .u8) y27.Kinds (yg16 6 1), Ent.im tS y27.Words (yg16 6 0), Ent.im (tI .u8) y22.Kinds (yg16 4 1), Ent.im tS y22.Words (yg16 4 0), Ent.im (tI .u8) y17.Kinds (yg16 2 1), Ent.im tS y17.Words (yg16 2 0), Ent.im (tI .u8) ([] : List Int) (.nil), Ent.im (tI .u8) ([] : List Int) (.nil)] _ := SH.frz1 (hS.sel [16, 0, 1, 2, 3, 4, 5, 6, 7, 8, 9, 10, 11, 12, 13, 14, 15, 17] rfl)
   have hd := hS.hand [15, 14, 13, 12, 11, 10, 9, 8, 7, 6, 5, 4, 3, 2, 1, 0] [0, 1, 2, 3, 4, 5, 6, 7, 8, 9, 10, 11, 12, 13, 14, 15, 16, 17] rfl rfl
   refine Stp.mono (o_lit (T := tyProp) (E := 68) (zv := .agg ⟨[.string ⟨⟨[]⟩⟩, .bool false, .int .u8 0, .string ⟨⟨[]⟩⟩, .int .i64 0, .int .u8 0, .int .u8 0, .int .u8 0, .int .u8 0, .slice none 0 0, .slice none 0 0, .bool false]⟩) [.string ⟨⟨y17.Name⟩⟩, .bool y17.Inherited, .int .u8 y17.Initial.Kind, .string ⟨⟨y17.Initial.Word⟩⟩, .int .i64 y17.Initial.Num, .int .u8 y17.Initial.Color.Red, .int .u8 y17.Initial.Color.Green, .int .u8 y17.Initial.Color.Blue, .int .u8 y17.Initial.Color.Alpha, .slice (yg16 2 0).a y17.Words.length (yg16 2 0).c, .slice (yg16 2 1).a y17.Kinds.length (yg16 2 1).c, .bool y17.Least, .string ⟨⟨y22.Name⟩⟩, .bool y22.Inherited, .int .u8 y22.Initial.Kind, .string ⟨⟨y22.Initial.Word⟩⟩, .int .i64 y22.Initial.Num, .int .u8 y22.Initial.Color.Red, .int .u8 y22.Initial.Color.Green, .int .u8 y22.Initial.Color.Blue, .int .u8 y22.Initial.Color.Alpha, .slice (yg16 4 0).a y22.Words.length (yg16 4 0).c, .slice (yg16 4 1).a y22.Kinds.length (yg16 4 1).c, .bool y22.Least, .string ⟨⟨y27.Name⟩⟩, .bool y27.Inherited, .int .u8 y27.Initial.Kind, .string ⟨⟨y27.Initial.Word⟩⟩, .int .i64 y27.Initial.Num, .int .u8 y27.Initial.Color.Red, .int .u8 y27.Initial.Color.Green, .int .u8 y27.Initial.Color.Blue, .int .u8 y27.Initial.Color.Alpha, .slice (yg16 6 0).a y27.Words.length (yg16 6 0).c, .slice (yg16 6 1).a y27.Kinds.length (yg16 6 1).c, .bool y27.Least, .string ⟨⟨y32.Name⟩⟩, .bool y32.Inherited, .int .u8 y32.Initial.Kind, .string ⟨⟨y32.Initial.Word⟩⟩, .int .i64 y32.Initial.Num, .int .u8 y32.Initial.Color.Red, .int .u8 y32.Initial.Color.Green, .int .u8 y32.Initial.Color.Blue, .int .u8 y32.Initial.Color.Alpha, .slice (yg16 8 0).a y32.Words.length (yg16 8 0).c, .slice (yg16 8 1).a y32.Kinds.length (yg16 8 1).c, .bool y32.Least, .string ⟨⟨y37.Name⟩⟩, .bool y37.Inherited, .int .u8 y37.Initial.Kind, .string ⟨⟨y37.Initial.Word⟩⟩, .int .i64 y37.Initial.Num, .int .u8 y37.Initial.Color.Red, .int .u8 y37.Initial.Color.Green, .int .u8 y37.Initial.Color.Blue, .int .u8 y37.Initial.Color.Alpha, .slice (yg16 9 0).a y37.Words.length (yg16 9 0).c, .slice (yg16 9 1).a y37.Kinds.length (yg16 9 1).c, .bool y37.Least, .string ⟨⟨y42.Name⟩⟩, .bool y42.Inherited, .int .u8 y42.Initial.Kind, .string ⟨⟨y42.Initial.Word⟩⟩, .int .i64 y42.Initial.Num, .int .u8 y42.Initial.Color.Red, .int .u8 y42.Initial.Color.Green, .int .u8 y42.Initial.Color.Blue, .int .u8 y42.Initial.Color.Alpha, .slice (yg16 10 0).a y42.Words.length (yg16 10 0).c, .slice (yg16 10 1).a y42.Kinds.length (yg16 10 1).c, .bool y42.Least, .string ⟨⟨y48.Name⟩⟩, .bool y48.Inherited, .int .u8 y48.Initial.Kind, .string ⟨⟨y48.Initial.Word⟩⟩, .int .i64 y48.Initial.Num, .int .u8 y48.Initial.Color.Red, .int .u8 y48.Initial.Color.Green, .int .u8 y48.Initial.Color.Blue, .int .u8 y48.Initial.Color.Alpha, .slice (yg16 12 0).a y48.Words.length (yg16 12 0).c, .slice (yg16 12 1).a y48.Kinds.length (yg16 12 1).c, .bool y48.Least, .string ⟨⟨y54.Name⟩⟩, .bool y54.Inherited, .int .u8 y54.Initial.Kind, .string ⟨⟨y54.Initial.Word⟩⟩, .int .i64 y54.Initial.Num, .int .u8 y54.Initial.Color.Red, .int .u8 y54.Initial.Color.Green, .int .u8 y54.Initial.Color.Blue, .int .u8 y54.Initial.Color.Alpha, .slice (yg16 14 0).a y54.Words.length (yg16 14 0).c, .slice (yg16 14 1).a y54.Kinds.length (yg16 14 1).c, .bool y54.Least] ([y17, y22, y27, y32, y37, y42, y48, y54] : List TProp) [gL [(yg16 2 0), (yg16 2 1)], gL [(yg16 4 0), (yg16 4 1)], gL [(yg16 6 0), (yg16 6 1)], gL [(yg16 8 0), (yg16 8 1)], gL [(yg16 9 0), (yg16 9 1)], gL [(yg16 10 0), (yg16 10 1)], gL [(yg16 12 0), (yg16 12 1)], gL [(yg16 14 0), (yg16 14 1)]] _ H hd rfl (by kernel_rfl) (by kernel_rfl) (by kernel_rfl) (by kernel_rfl) (by kernel_rfl) (by kernel_rfl) (by kernel_rfl) rfl (InnL.cons (tyProp_mk (hd.im 0 rfl) (hd.im 1 rfl)) (InnL.cons (tyProp_mk (hd.im 2 rfl) (hd.im 3 rfl)) (InnL.cons (tyProp_mk (hd.im 4 rfl) (hd.im 5 rfl)) (InnL.cons (tyProp_mk (hd.im 6 rfl) (hd.im 7 rfl)) (InnL.cons (tyProp_mk (hd.im 8 rfl) (hd.im 9 rfl)) (InnL.cons (tyProp_mk (hd.im 10 rfl) (hd.im 11 rfl)) (InnL.cons (tyProp_mk (hd.im 12 rfl) (hd.im 13 rfl)) (InnL.cons (tyProp_mk (hd.im 14 rfl) (hd.im 15 rfl)) InnL.nil))))))))) ?_
   rintro v w2 hq
   obtain ⟨g59, rfl, hq⟩ := hq
   replace hS : SH M X w [Ent.own 68 tyProp ([y17, y22, y27, y32, y37, y42, y48, y54] : List TProp) g59, Ent.im (tI .u8) y54.Kinds (yg16 14 1), Ent.im tS y54.Words (yg16 14 0), Ent.im (tI .u8) y48.Kinds (yg16 12 1), Ent.im tS y48.Words (yg16 12 0), Ent.im (tI .u8) y42.Kinds (yg16 10 1), Ent.im tS y42.Words (yg16 10 0), Ent.im (tI .u8) y37.Kinds (yg16 9 1), Ent.im tS y37.Words (yg16 9 0), Ent.im (tI .u8) y32.Kinds (yg16 8 1), Ent.im tS y32.Words (yg16 8 0), Ent.im (tI .u8) y27.Kinds (yg16 6 1), Ent.im tS y27.Words (yg16 6 0), Ent.im (tI .u8) y22.Kinds (yg16 4 1), Ent.im tS y22.Words (yg16 4 0), Ent.im (tI .u8) y17.Kinds (yg16 2 1), Ent.im tS y17.Words (yg16 2 0), Ent.im (tI .u8) ([] : List Int) (.nil), Ent.im (tI .u8) ([] : List Int) (.nil)] _ := hS.join [15, 14, 13, 12, 11, 10, 9, 8, 7, 6, 5, 4, 3, 2, 1, 0] [0, 1, 2, 3, 4, 5, 6, 7, 8, 9, 10, 11, 12, 13, 14, 15, 16, 17] rfl rfl hq
   clear hq
   rw [hX] at hS
   exact ⟨gL [g59], fun _ _ => rfl, hS.sel [0, 1, 2, 3, 4, 5, 6, 7, 8, 9, 10, 11, 12, 13, 14, 15, 16, 17, 18] rfl⟩
  ·intro o ho a w yg16 M Hb hv hO hS0
   obtain rfl := Option.some.inj ho
   have H : Fr 57 ([(23, [], .slice (yg16 15 0).a 8 (yg16 15 0).c)] ++ [(1, [], .pointer (some ⟨b6, 0, none⟩)), (2, [], .pointer (some ⟨b9, 0, none⟩))]) _ := (Hb).add (hv 15 (by decide) (by decide) 23 rfl)
   obtain ⟨X, hX⟩ : ∃ X, X = fpl [Ent.own 68 tyProp ([y17, y22, y27, y32, y37, y42, y48, y54] : List TProp) (yg16 15 0), Ent.im (tI .u8) y54.Kinds (yg16 14 1), Ent.im tS y54.Words (yg16 14 0), Ent.im (tI .u8) y48.Kinds (yg16 12 1), Ent.im tS y48.Words (yg16 12 0), Ent.im (tI .u8) y42.Kinds (yg16 10 1), Ent.im tS y42.Words (yg16 10 0), Ent.im (tI .u8) y37.Kinds (yg16 9 1), Ent.im tS y37.Words (yg16 9 0), Ent.im (tI .u8) y32.Kinds (yg16 8 1), Ent.im tS y32.Words (yg16 8 0), Ent.im (tI .u8) y27.Kinds (yg16 6 1), Ent.im tS y27.Words (yg16 6 0), Ent.im (tI .u8) y22.Kinds (yg16 4 1), Ent.im tS y22.Words (yg16 4 0), Ent.im (tI .u8) y17.Kinds (yg16 2 1), Ent.im tS y17.Words (yg16 2 0), Ent.im (tI .u8) ([] : List Int) (.nil), Ent.im (tI .u8) ([] : List Int) (.nil)] := ⟨_, rfl⟩
   have hS : SH M X w [Ent.own 68 tyProp ([y17, y22, y27, y32, y37, y42, y48, y54] : List TProp) (yg16 15 0), Ent.im (tI .u8) y54.Kinds (yg16 14 1), Ent.im tS y54.Words (yg16 14 0), Ent.im (tI .u8) y48.Kinds (yg16 12 1), Ent.im tS y48.Words (yg16 12 0), Ent.im (tI .u8) y42.Kinds (yg16 10 1), Ent.im tS y42.Words (yg16 10 0), Ent.im (tI .u8) y37.Kinds (yg16 9 1), Ent.im tS y37.Words (yg16 9 0), Ent.im (tI .u8) y32.Kinds (yg16 8 1), Ent.im tS y32.Words (yg16 8 0), Ent.im (tI .u8) y27.Kinds (yg16 6 1), Ent.im tS y27.Words (yg16 6 0), Ent.im (tI .u8) y22.Kinds (yg16 4 1), Ent.im tS y22.Words (yg16 4 0), Ent.im (tI .u8) y17.Kinds (yg16 2 1), Ent.im tS y17.Words (yg16 2 0), Ent.im (tI .u8) ([] : List Int) (.nil), Ent.im (tI .u8) ([] : List Int) (.nil)] w := by rw [hX]; exact hS0
   refine Stp.mono (o_evs [] (.slice (yg16 15 0).a 8 (yg16 15 0).c) none [] H rfl (by kernel_rfl) (fun q e => by cases e)) ?_
   rintro v w2 ⟨rfl, hq⟩
   replace hS : SH M X w [Ent.own 68 tyProp ([y17, y22, y27, y32, y37, y42, y48, y54] : List TProp) (yg16 15 0), Ent.im (tI .u8) y54.Kinds (yg16 14 1), Ent.im tS y54.Words (yg16 14 0), Ent.im (tI .u8) y48.Kinds (yg16 12 1), Ent.im tS y48.Words (yg16 12 0), Ent.im (tI .u8) y42.Kinds (yg16 10 1), Ent.im tS y42.Words (yg16 10 0), Ent.im (tI .u8) y37.Kinds (yg16 9 1), Ent.im tS y37.Words (yg16 9 0), Ent.im (tI .u8) y32.Kinds (yg16 8 1), Ent.im tS y32.Words (yg16 8 0), Ent.im (tI .u8) y27.Kinds (yg16 6 1), Ent.im tS y27.Words (yg16 6 0), Ent.im (tI .u8) y22.Kinds (yg16 4 1), Ent.im tS y22.Words (yg16 4 0), Ent.im (tI .u8) y17.Kinds (yg16 2 1), Ent.im tS y17.Words (yg16 2 0), Ent.im (tI .u8) ([] : List Int) (.nil), Ent.im (tI .u8) ([] : List Int) (.nil)] _ := hS.below hq.below
   rw [hX] at hS
   exact ⟨gL [], fun _ _ => rfl, hS.sel [0, 1, 2, 3, 4, 5, 6, 7, 8, 9, 10, 11, 12, 13, 14, 15, 16, 17, 18] rfl⟩
 have H63 : Fr 57 [(3, [], .slice (yg16 15 0).a 8 (yg16 15 0).c), (1, [], .pointer (some ⟨b6, 0, none⟩)), (2, [], .pointer (some ⟨b9, 0, none⟩))] _ := (FrG.add (FrG.keep (ks := [1, 2]) H62 (by kernel_rfl)) (hv 16 3 rfl))
 replace hS : SH M X w [Ent.own 68 tyProp ([y17, y22, y27, y32, y37, y42, y48, y54] : List TProp) (yg16 15 0), Ent.im (tI .u8) y54.Kinds (yg16 14 1), Ent.im tS y54.Words (yg16 14 0), Ent.im (tI .u8) y48.Kinds (yg16 12 1), Ent.im tS y48.Words (yg16 12 0), Ent.im (tI .u8) y42.Kinds (yg16 10 1), Ent.im tS y42.Words (yg16 10 0), Ent.im (tI .u8) y37.Kinds (yg16 9 1), Ent.im tS y37.Words (yg16 9 0), Ent.im (tI .u8) y32.Kinds (yg16 8 1), Ent.im tS y32.Words (yg16 8 0), Ent.im (tI .u8) y27.Kinds (yg16 6 1), Ent.im tS y27.Words (yg16 6 0), Ent.im (tI .u8) y22.Kinds (yg16 4 1), Ent.im tS y22.Words (yg16 4 0), Ent.im (tI .u8) y17.Kinds (yg16 2 1), Ent.im tS y17.Words (yg16 2 0), Ent.im (tI .u8) ([] : List Int) (.nil), Ent.im (tI .u8) ([] : List Int) (.nil), Ent.blk b9 [.int .u8 2, .string ⟨⟨[]⟩⟩, .int .i64 0, .int .u8 0, .int .u8 0, .int .u8 0, .int .u8 0], Ent.blk b6 [.int .u8 y3.Kind, .string ⟨⟨y3.Word⟩⟩, .int .i64 y3.Num, .int .u8 y3.Color.Red, .int .u8 y3.Color.Green, .int .u8 y3.Color.Blue, .int .u8 y3.Color.Alpha], gE0] _ := hS
 clear hv H62
 generalize yg16 15 0 = g64 at H63 hS
 generalize yg16 14 1 = g65 at H63 hS
 generalize yg16 14 0 = g66 at H63 hS
 generalize yg16 12 1 = g67 at H63 hS
 generalize yg16 12 0 = g68 at H63 hS
 generalize yg16 10 1 = g69 at H63 hS
 generalize yg16 10 0 = g70 at H63 hS
 generalize yg16 9 1 = g71 at H63 hS
 generalize yg16 9 0 = g72 at H63 hS
 generalize yg16 8 1 = g73 at H63 hS
 generalize yg16 8 0 = g74 at H63 hS
 generalize yg16 6 1 = g75 at H63 hS
 generalize yg16 6 0 = g76 at H63 hS
 generalize yg16 4 1 = g77 at H63 hS
 generalize yg16 4 0 = g78 at H63 hS
 generalize yg16 2 1 = g79 at H63 hS
 generalize yg16 2 0 = g80 at H63 hS
 replace hS : SH M X w [Ent.own 68 tyProp ([y17, y22, y27, y32, y37, y42, y48, y54] : List TProp) g64, Ent.blk b9 [.int .u8 2, .string ⟨⟨[]⟩⟩, .int .i64 0, .int .u8 0, .int .u8 0, .int .u8 0, .int .u8 0], Ent.blk b6 [.int .u8 y3.Kind, .string ⟨⟨y3.Word⟩⟩, .int .i64 y3.Num, .int .u8 y3.Color.Red, .int .u8 y3.Color.Green, .int .u8 y3.Color.Blue, .int .u8 y3.Color.Alpha], gE0] _ := hS.sel [0, 19, 20, 21] rfl
 obtain ⟨z81, hz, hm⟩ := bindE hm
 refine w_cut (fun a' w' => ∃ (g123 : Gh), Fr 57 [(1, [], .pointer (some ⟨b6, 0, none⟩)), (3, [], .slice g123.a z81.length g123.c)] a' ∧ SH M X w [Ent.own 68 tyProp z81 g123, Ent.blk b9 [.int .u8 2, .string ⟨⟨[]⟩⟩, .int .i64 0, .int .u8 0, .int .u8 0, .int .u8 0, .int .u8 0], Ent.blk b6 [.int .u8 y3.Kind, .string ⟨⟨y3.Word⟩⟩, .int .i64 y3.Num, .int .u8 y3.Color.Red, .int .u8 y3.Color.Green, .int .u8 y3.Color.Blue, .int .u8 y3.Color.Alpha], gE0] w') ?_ ?_
 ·replace hm := hz
  refine w_seq ?_
  refine wl_start ?_
  have hd := hS.hand [] [0, 1, 2, 3] rfl rfl
  refine m_stp [24, 1, 2, 3] [(1, [], .pointer (some ⟨b6, 0, none⟩)), (2, [], .pointer (some ⟨b9, 0, none⟩)), (3, [], .slice g64.a 8 g64.c)] H63 rfl rfl rfl rfl (o_lit (T := tS) (E := 9) (zv := .string ⟨⟨[]⟩⟩) [.string ⟨⟨[116, 111, 112]⟩⟩, .string ⟨⟨[114, 105, 103, 104, 116]⟩⟩, .string ⟨⟨[98, 111, 116, 116, 111, 109]⟩⟩, .string ⟨⟨[108, 101, 102, 116]⟩⟩] ([[116, 111, 112], [114, 105, 103, 104, 116], [98, 111, 116, 116, 111, 109], [108, 101, 102, 116]] : List Str) [gL [], gL [], gL [], gL []] _ H63 hd rfl (by kernel_rfl) (by kernel_rfl) (by kernel_rfl) (by kernel_rfl) (by kernel_rfl) (by kernel_rfl) (by kernel_rfl) rfl (InnL.cons trivial (InnL.cons trivial (InnL.cons trivial (InnL.cons trivial InnL.nil))))) (fun _ => rfl) fun _ wd84 v H85 hq => ?_
  clear H63 hd
  obtain ⟨g82, rfl, hq⟩ := hq
  replace hS : SH M X w [Ent.own 9 tS ([[116, 111, 112], [114, 105, 103, 104, 116], [98, 111, 116, 116, 111, 109], [108, 101, 102, 116]] : List Str) g82, Ent.own 68 tyProp ([y17, y22, y27, y32, y37, y42, y48, y54] : List TProp) g64, Ent.blk b9 [.int .u8 2, .string ⟨⟨[]⟩⟩, .int .i64 0, .int .u8 0, .int .u8 0, .int .u8 0, .int .u8 0], Ent.blk b6 [.int .u8 y3.Kind, .string ⟨⟨y3.Word⟩⟩, .int .i64 y3.Num, .int .u8 y3.Color.Red, .int .u8 y3.Color.Green, .int .u8 y3.Color.Blue, .int .u8 y3.Color.Alpha], gE0] _ := hS.join [] [0, 1, 2, 3] rfl rfl hq
  clear hq
  refine wl_batch 1 3 [] [1, 2, 3, 24, 25, 26] [(1, [], .pointer (some ⟨b6, 0, none⟩)), (2, [], .pointer (some ⟨b9, 0, none⟩)), (3, [], .slice g64.a 8 g64.c), (24, [], .slice g82.a 4 g82.c), (25, [], .int .i64 4), (26, [], .int .i64 0)] [] H85 (by decide) (by kernel_rfl) trivial fun _ wd86 H87 hb => ?_
  clear H85
  replace hS := hS.below hb
  clear hb
  refine wl_end rfl ?_
  refine w_block ?_
  refine w_loop (fun kk a' w' => ∃ (v88 : List TProp) (v90 : Int) (g89 : Gh), props_Table_L1 m  kk v88 v90 = some _ ∧ Fr 57 [(1, [], .pointer (some ⟨b6, 0, none⟩)), (2, [], .pointer (some ⟨b9, 0, none⟩)), (24, [], .slice g82.a 4 g82.c), (25, [], .int .i64 4), (3, [], .slice g89.a v88.length g89.c), (26, [], .int .i64 v90)] a' ∧ SH M X w [Ent.own 9 tS ([[116, 111, 112], [114, 105, 103, 104, 116], [98, 111, 116, 116, 111, 109], [108, 101, 102, 116]] : List Str) g82, Ent.own 68 tyProp v88 g89, Ent.blk b9 [.int .u8 2, .string ⟨⟨[]⟩⟩, .int .i64 0, .int .u8 0, .int .u8 0, .int .u8 0, .int .u8 0], Ent.blk b6 [.int .u8 y3.Kind, .string ⟨⟨y3.Word⟩⟩, .int .i64 y3.Num, .int .u8 y3.Color.Red, .int .u8 y3.Color.Green, .int .u8 y3.Color.Blue, .int .u8 y3.Color.Alpha], gE0] w') ⟨_, ([y17, y22, y27, y32, y37, y42, y48, y54] : List TProp), 0, g64, hm, FrG.keep (ks := [1, 2, 24, 25, 3, 26]) H87 (by kernel_rfl), hS⟩ ?_
  clear hm H87 hS
  rintro kk _ wd122 ⟨v88, v90, g89, hm, H, hS⟩
  cases kk with
  | zero => exact noneE hm
  | succ kk =>
   rw [props_Table_L1] at hm
   refine s_reg [] [1, 2, 3, 24, 25, 26, 27] [(1, [], .pointer (some ⟨b6, 0, none⟩)), (2, [], .pointer (some ⟨b9, 0, none⟩)), (3, [], .slice g89.a v88.length g89.c), (24, [], .slice g82.a 4 g82.c), (25, [], .int .i64 4), (26, [], .int .i64 v90), (27, [], .bool (decide (v90 < 4)))] [] H (by kernel_rfl) trivial fun _ wd91 H92 hb => ?_
   clear H
   replace hS := hS.below hb
   clear hb
   refine w_seq ?_
   refine w_if H92 rfl (fun hc => ?_) (fun hc => ?c121)
   case c121 =>
    replace hm := bF hc hm
    refine w_exit rfl ?_
    obtain rfl := someE hm
    replace hS : SH M X w [Ent.own 68 tyProp v88 g89, Ent.blk b9 [.int .u8 2, .string ⟨⟨[]⟩⟩, .int .i64 0, .int .u8 0, .int .u8 0, .int .u8 0, .int .u8 0], Ent.blk b6 [.int .u8 y3.Kind, .string ⟨⟨y3.Word⟩⟩, .int .i64 y3.Num, .int .u8 y3.Color.Red, .int .u8 y3.Color.Green, .int .u8 y3.Color.Blue, .int .u8 y3.Color.Alpha], gE0] _ := hS.sel [1, 2, 3, 4] rfl
    exact ⟨g89, FrG.keep (ks := [1, 3]) H92 (by kernel_rfl), hS⟩
   replace hm := bT hc hm
   refine w_skip ?_
   refine w_seq ?_
   refine w_block ?_
   obtain ⟨ho93, hm⟩ := chkE hm
   obtain ⟨x94, hx94, hm⟩ := letE hm
   refine s_reg [(.string ⟨⟨(gi ([[116, 111, 112], [114, 105, 103, 104, 116], [98, 111, 116, 116, 111, 109], [108, 101, 102, 116]] : List Str) v90)⟩⟩)] [1, 2, 3, 5, 24, 25, 26] [(1, [], .pointer (some ⟨b6, 0, none⟩)), (2, [], .pointer (some ⟨b9, 0, none⟩)), (3, [], .slice g89.a v88.length g89.c), (5, [], .string ⟨⟨x94⟩⟩), (24, [], .slice g82.a 4 g82.c), (25, [], .int .i64 4), (26, [], .int .i64 v90)] [fun _ => oka g82.a ∧ 0 ≤ v90 ∧ v90 < ln ([[116, 111, 112], [114, 105, 103, 104, 116], [98, 111, 116, 116, 111, 109], [108, 101, 102, 116]] : List Str), fun wz => V.at1 ⟨ab g82.a, ao g82.a + (v90).toNat * 1, none⟩ (.string ⟨⟨(gi ([[116, 111, 112], [114, 105, 103, 104, 116], [98, 111, 116, 116, 111, 109], [108, 101, 102, 116]] : List Str) v90)⟩⟩) wz] H92 (by subst hx94; kernel_rfl) ⟨((hS.osl 0 rfl).oki ho93), ((hS.osl 0 rfl).at1 ho93 0 rfl), trivial⟩ fun _ wd95 H96 hb => ?_
   clear H92
   replace hS := hS.below hb
   clear hb
   refine wl_start ?_
   obtain ⟨ho97, hm⟩ := chkE hm
   refine wl_batch 0 4 [(.agg ⟨[.int .u8 2, .string ⟨⟨[]⟩⟩, .int .i64 0, .int .u8 0, .int .u8 0, .int .u8 0, .int .u8 0]⟩)] [1, 2, 24, 25, 26, 30, 32, 33] [(1, [], .pointer (some ⟨b6, 0, none⟩)), (2, [], .pointer (some ⟨b9, 0, none⟩)), (24, [], .slice g82.a 4 g82.c), (25, [], .int .i64 4), (26, [], .int .i64 v90), (30, [], .slice g89.a v88.length g89.c), (32, [], .string ⟨⟨[109, 97, 114, 103, 105, 110, 45] ++ x94⟩⟩), (33, [], .agg ⟨[.int .u8 2, .string ⟨⟨[]⟩⟩, .int .i64 0, .int .u8 0, .int .u8 0, .int .u8 0, .int .u8 0]⟩)] [fun _ => ln [109, 97, 114, 103, 105, 110, 45] + ln x94 ≤ 9223372036854775807, fun wz => V.atN b9 0 [.int .u8 2, .string ⟨⟨[]⟩⟩, .int .i64 0, .int .u8 0, .int .u8 0, .int .u8 0, .int .u8 0] 0 wz] H96 (by decide) (by kernel_rfl) ⟨ho97, ((hS.bk 2 rfl).atD rfl), trivial⟩ fun _ wd98 H99 hb => ?_
   clear H96
   replace hS := hS.below hb
   clear hb
   replace hS : SH M X w [Ent.own 5 (tI .u8) ([] : List Int) (.nil), Ent.own 9 tS ([[116, 111, 112], [114, 105, 103, 104, 116], [98, 111, 116, 116, 111, 109], [108, 101, 102, 116]] : List Str) g82, Ent.own 68 tyProp v88 g89, Ent.blk b9 [.int .u8 2, .string ⟨⟨[]⟩⟩, .int .i64 0, .int .u8 0, .int .u8 0, .int .u8 0, .int .u8 0], Ent.blk b6 [.int .u8 y3.Kind, .string ⟨⟨y3.Word⟩⟩, .int .i64 y3.Num, .int .u8 y3.Color.Red, .int .u8 y3.Color.Green, .int .u8 y3.Color.Blue, .int .u8 y3.Color.Alpha], gE0] _ := hS.addNil 5 (tI .u8)
   replace hS : SH M X w [Ent.im (tI .u8) ([] : List Int) (.nil), Ent.own 9 tS ([[116, 111, 112], [114, 105, 103, 104, 116], [98, 111, 116, 116, 111, 109], [108, 101, 102, 116]] : List Str) g82, Ent.own 68 tyProp v88 g89, Ent.blk b9 [.int .u8 2, .string ⟨⟨[]⟩⟩, .int .i64 0, .int .u8 0, .int .u8 0, .int .u8 0, .int .u8 0], Ent.blk b6 [.int .u8 y3.Kind, .string ⟨⟨y3.Word⟩⟩, .int .i64 y3.Num, .int .u8 y3.Color.Red, .int .u8 y3.Color.Green, .int .u8 y3.Color.Blue, .int .u8 y3.Color.Alpha], gE0] _ := SH.frz1 (hS.sel [0, 1, 2, 3, 4, 5] rfl)
   obtain ⟨y101, hy101, hm⟩ := bindE hm
   have hd := hS.hand [0, 5] [0, 1, 2, 3, 4, 5] rfl rfl
   refine m_stp [34, 1, 2, 24, 25, 26, 30] [(1, [], .pointer (some ⟨b6, 0, none⟩)), (2, [], .pointer (some ⟨b9, 0, none⟩)), (24, [], .slice g82.a 4 g82.c), (25, [], .int .i64 4), (26, [], .int .i64 v90), (30, [], .slice g89.a v88.length g89.c)] H99 rfl rfl rfl rfl (o_callx H99 rfl rfl (props_length_ok (g_more := Gh.nil) m _ _ _ _ _ _ _ hy101 _ _ hd)) (fun _ => rfl) fun _ wd106 v H107 hq => ?_
   clear H99 hd
   obtain ⟨g102, g104, rfl, hq⟩ := hq
   replace hS : SH M X w [Ent.own 9 tS y101.Words g102, Ent.own 5 (tI .u8) y101.Kinds g104, Ent.im (tI .u8) ([] : List Int) (.nil), Ent.own 9 tS ([[116, 111, 112], [114, 105, 103, 104, 116], [98, 111, 116, 116, 111, 109], [108, 101, 102, 116]] : List Str) g82, Ent.own 68 tyProp v88 g89, Ent.blk b9 [.int .u8 2, .string ⟨⟨[]⟩⟩, .int .i64 0, .int .u8 0, .int .u8 0, .int .u8 0, .int .u8 0], Ent.blk b6 [.int .u8 y3.Kind, .string ⟨⟨y3.Word⟩⟩, .int .i64 y3.Num, .int .u8 y3.Color.Red, .int .u8 y3.Color.Green, .int .u8 y3.Color.Blue, .int .u8 y3.Color.Alpha], gE0] _ := hS.join [0, 5] [0, 1, 2, 3, 4, 5] rfl rfl hq
   clear hq
   replace hS : SH M X w [Ent.im tS y101.Words g102, Ent.own 5 (tI .u8) y101.Kinds g104, Ent.im (tI .u8) ([] : List Int) (.nil), Ent.own 9 tS ([[116, 111, 112], [114, 105, 103, 104, 116], [98, 111, 116, 116, 111, 109], [108, 101, 102, 116]] : List Str) g82, Ent.own 68 tyProp v88 g89, Ent.blk b9 [.int .u8 2, .string ⟨⟨[]⟩⟩, .int .i64 0, .int .u8 0, .int .u8 0, .int .u8 0, .int .u8 0], Ent.blk b6 [.int .u8 y3.Kind, .string ⟨⟨y3.Word⟩⟩, .int .i64 y3.Num, .int .u8 y3.Color.Red, .int .u8 y3.Color.Green, .int .u8 y3.Color.Blue, .int .u8 y3.Color.Alpha], gE0] _ := SH.frz1 (hS.sel [0, 1, 2, 3, 4, 5, 6, 7] rfl)
   replace hS : SH M X w [Ent.im (tI .u8) y101.Kinds g104, Ent.im tS y101.Words g102, Ent.im (tI .u8) ([] : List Int) (.nil), Ent.own 9 tS ([[116, 111, 112], [114, 105, 103, 104, 116], [98, 111, 116, 116, 111, 109], [108, 101, 102, 116]] : List Str) g82, Ent.own 68 tyProp v88 g89, Ent.blk b9 [.int .u8 2, .string ⟨⟨[]⟩⟩, .int .i64 0, .int .u8 0, .int .u8 0, .int .u8 0, .int .u8 0], Ent.blk b6 [.int .u8 y3.Kind, .string ⟨⟨y3.Word⟩⟩, .int .i64 y3.Num, .int .u8 y3.Color.Red, .int .u8 y3.Color.Green, .int .u8 y3.Color.Blue, .int .u8 y3.Color.Alpha], gE0] _ := SH.frz1 (hS.sel [1, 0, 2, 3, 4, 5, 6, 7] rfl)
   have hd := hS.hand [1, 0] [0, 1, 2, 3, 4, 5, 6, 7] rfl rfl
   refine m_stp [35, 1, 2, 24, 25, 26, 30] [(1, [], .pointer (some ⟨b6, 0, none⟩)), (2, [], .pointer (some ⟨b9, 0, none⟩)), (24, [], .slice g82.a 4 g82.c), (25, [], .int .i64 4), (26, [], .int .i64 v90), (30, [], .slice g89.a v88.length g89.c)] H107 rfl rfl rfl rfl (o_lit (T := tyProp) (E := 68) (zv := .agg ⟨[.string ⟨⟨[]⟩⟩, .bool false, .int .u8 0, .string ⟨⟨[]⟩⟩, .int .i64 0, .int .u8 0, .int .u8 0, .int .u8 0, .int .u8 0, .slice none 0 0, .slice none 0 0, .bool false]⟩) [.string ⟨⟨y101.Name⟩⟩, .bool y101.Inherited, .int .u8 y101.Initial.Kind, .string ⟨⟨y101.Initial.Word⟩⟩, .int .i64 y101.Initial.Num, .int .u8 y101.Initial.Color.Red, .int .u8 y101.Initial.Color.Green, .int .u8 y101.Initial.Color.Blue, .int .u8 y101.Initial.Color.Alpha, .slice g102.a y101.Words.length g102.c, .slice g104.a y101.Kinds.length g104.c, .bool y101.Least] ([y101] : List TProp) [gL [g102, g104]] _ H107 hd rfl (by kernel_rfl) (by kernel_rfl) (by kernel_rfl) (by kernel_rfl) (by kernel_rfl) (by kernel_rfl) (by kernel_rfl) rfl (InnL.cons (tyProp_mk (hd.im 0 rfl) (hd.im 1 rfl)) InnL.nil)) (fun _ => rfl) fun _ wd110 v H111 hq => ?_
   clear H107 hd
   obtain ⟨g108, rfl, hq⟩ := hq
   replace hS : SH M X w [Ent.own 68 tyProp ([y101] : List TProp) g108, Ent.im (tI .u8) y101.Kinds g104, Ent.im tS y101.Words g102, Ent.im (tI .u8) ([] : List Int) (.nil), Ent.own 9 tS ([[116, 111, 112], [114, 105, 103, 104, 116], [98, 111, 116, 116, 111, 109], [108, 101, 102, 116]] : List Str) g82, Ent.own 68 tyProp v88 g89, Ent.blk b9 [.int .u8 2, .string ⟨⟨[]⟩⟩, .int .i64 0, .int .u8 0, .int .u8 0, .int .u8 0, .int .u8 0], Ent.blk b6 [.int .u8 y3.Kind, .string ⟨⟨y3.Word⟩⟩, .int .i64 y3.Num, .int .u8 y3.Color.Red, .int .u8 y3.Color.Green, .int .u8 y3.Color.Blue, .int .u8 y3.Color.Alpha], gE0] _ := hS.join [1, 0] [0, 1, 2, 3, 4, 5, 6, 7] rfl rfl hq
   clear hq
   obtain ⟨ho112, hm⟩ := chkE hm
   obtain ⟨q113, hq113, hm⟩ := letE hm
   have hd := hS.hand [5, 0] [1, 2, 3, 4, 6, 7, 8] rfl rfl
   refine m_stp [36, 1, 2, 24, 25, 26] [(1, [], .pointer (some ⟨b6, 0, none⟩)), (2, [], .pointer (some ⟨b9, 0, none⟩)), (24, [], .slice g82.a 4 g82.c), (25, [], .int .i64 4), (26, [], .int .i64 v90)] H111 rfl rfl rfl rfl (o_app2 (T := tyProp) (zv := .agg ⟨[.string ⟨⟨[]⟩⟩, .bool false, .int .u8 0, .string ⟨⟨[]⟩⟩, .int .i64 0, .int .u8 0, .int .u8 0, .int .u8 0, .int .u8 0, .slice none 0 0, .slice none 0 0, .bool false]⟩) (g1 := g89) (g2 := g108) (l1 := v88) (l2 := ([y101] : List TProp)) q113 hq113.symm H111 hd rfl rfl rfl rfl rfl rfl rfl (by kernel_rfl) (by kernel_rfl) rfl rfl ho112) (fun _ => rfl) fun _ wd114 v H115 hq => ?_
   clear H111 hd
   obtain ⟨g116, rfl, hq⟩ := hq
   replace hS : SH M X w [Ent.own 68 tyProp q113 g116, Ent.own 68 tyProp ([y101] : List TProp) g108, Ent.im (tI .u8) y101.Kinds g104, Ent.im tS y101.Words g102, Ent.im (tI .u8) ([] : List Int) (.nil), Ent.own 9 tS ([[116, 111, 112], [114, 105, 103, 104, 116], [98, 111, 116, 116, 111, 109], [108, 101, 102, 116]] : List Str) g82, Ent.blk b9 [.int .u8 2, .string ⟨⟨[]⟩⟩, .int .i64 0, .int .u8 0, .int .u8 0, .int .u8 0, .int .u8 0], Ent.blk b6 [.int .u8 y3.Kind, .string ⟨⟨y3.Word⟩⟩, .int .i64 y3.Num, .int .u8 y3.Color.Red, .int .u8 y3.Color.Green, .int .u8 y3.Color.Blue, .int .u8 y3.Color.Alpha], gE0] _ := hS.join [5, 0] [1, 2, 3, 4, 6, 7, 8] rfl rfl hq
   clear hq
   refine wl_batch 7 8 [] [1, 2, 3, 24, 25, 26] [(1, [], .pointer (some ⟨b6, 0, none⟩)), (2, [], .pointer (some ⟨b9, 0, none⟩)), (3, [], .slice g116.a q113.length g116.c), (24, [], .slice g82.a 4 g82.c), (25, [], .int .i64 4), (26, [], .int .i64 v90)] [] H115 (by decide) (by kernel_rfl) trivial fun _ wd117 H118 hb => ?_
   clear H115
   replace hS := hS.below hb
   clear hb
   refine wl_end rfl ?_
   replace hS : SH M X w [Ent.own 68 tyProp q113 g116, Ent.own 9 tS ([[116, 111, 112], [114, 105, 103, 104, 116], [98, 111, 116, 116, 111, 109], [108, 101, 102, 116]] : List Str) g82, Ent.blk b9 [.int .u8 2, .string ⟨⟨[]⟩⟩, .int .i64 0, .int .u8 0, .int .u8 0, .int .u8 0, .int .u8 0], Ent.blk b6 [.int .u8 y3.Kind, .string ⟨⟨y3.Word⟩⟩, .int .i64 y3.Num, .int .u8 y3.Color.Red, .int .u8 y3.Color.Green, .int .u8 y3.Color.Blue, .int .u8 y3.Color.Alpha], gE0] _ := hS.sel [0, 5, 6, 7, 8] rfl
   refine w_reg [] [1, 2, 3, 24, 25, 26] [(1, [], .pointer (some ⟨b6, 0, none⟩)), (2, [], .pointer (some ⟨b9, 0, none⟩)), (3, [], .slice g116.a q113.length g116.c), (24, [], .slice g82.a 4 g82.c), (25, [], .int .i64 4), (26, [], .int .i64 (w64 (v90 + 1)))] [] H118 (by kernel_rfl) trivial fun _ wd119 H120 hb => ?_
   clear H118
   replace hS := hS.below hb
   clear hb
   replace hS : SH M X w [Ent.own 9 tS ([[116, 111, 112], [114, 105, 103, 104, 116], [98, 111, 116, 116, 111, 109], [108, 101, 102, 116]] : List Str) g82, Ent.own 68 tyProp q113 g116, Ent.blk b9 [.int .u8 2, .string ⟨⟨[]⟩⟩, .int .i64 0, .int .u8 0, .int .u8 0, .int .u8 0, .int .u8 0], Ent.blk b6 [.int .u8 y3.Kind, .string ⟨⟨y3.Word⟩⟩, .int .i64 y3.Num, .int .u8 y3.Color.Red, .int .u8 y3.Color.Green, .int .u8 y3.Color.Blue, .int .u8 y3.Color.Alpha], gE0] _ := hS.sel [1, 0, 2, 3, 4] rfl
   exact ⟨_, Nat.lt_succ_self _, q113, w64 (v90 + 1), g116, hm, FrG.keep (ks := [1, 2, 24, 25, 3, 26]) H120 (by kernel_rfl), hS⟩
 ·rintro _ wd173 ⟨g123, H, hS⟩
  replace hS : SH M X w [Ent.own 68 tyProp z81 g123, Ent.blk b6 [.int .u8 y3.Kind, .string ⟨⟨y3.Word⟩⟩, .int .i64 y3.Num, .int .u8 y3.Color.Red, .int .u8 y3.Color.Green, .int .u8 y3.Color.Blue, .int .u8 y3.Color.Alpha], gE0] _ := hS.sel [0, 2, 3] rfl
  obtain ⟨y126, hy126, hm⟩ := bindE hm
  obtain ⟨y131, hy131, hm⟩ := letE hm
  obtain ⟨y134, hy134, hm⟩ := bindE hm
  obtain ⟨y139, hy139, hm⟩ := bindE hm
  obtain ⟨ho154, hm⟩ := chkE hm
  obtain ⟨q155, hq155, hm⟩ := letE hm
  refine s_drawS (base := [(1, [], .pointer (some ⟨b6, 0, none⟩)), (3, [], .slice g123.a z81.length g123.c)]) (L := [Ent.own 68 tyProp z81 g123, Ent.blk b6 [.int .u8 y3.Kind, .string ⟨⟨y3.Word⟩⟩, .int .i64 y3.Num, .int .u8 y3.Color.Red, .int .u8 y3.Color.Green, .int .u8 y3.Color.Blue, .int .u8 y3.Color.Alpha], gE0]) 20 3 (fun yg124 => [.slice g123.a z81.length g123.c, .agg ⟨[.int .u8 2, .string ⟨⟨[]⟩⟩, .int .i64 16000, .int .u8 0, .int .u8 0, .int .u8 0, .int .u8 0]⟩, .agg ⟨[.string ⟨⟨y126.Name⟩⟩, .bool y126.Inherited, .int .u8 y126.Initial.Kind, .string ⟨⟨y126.Initial.Word⟩⟩, .int .i64 y126.Initial.Num, .int .u8 y126.Initial.Color.Red, .int .u8 y126.Initial.Color.Green, .int .u8 y126.Initial.Color.Blue, .int .u8 y126.Initial.Color.Alpha, .slice (yg124 2 0).a y126.Words.length (yg124 2 0).c, .slice (yg124 2 1).a y126.Kinds.length (yg124 2 1).c, .bool y126.Least]⟩, .agg ⟨[.int .u8 y131.Kind, .string ⟨⟨y131.Word⟩⟩, .int .i64 y131.Num, .int .u8 y131.Color.Red, .int .u8 y131.Color.Green, .int .u8 y131.Color.Blue, .int .u8 y131.Color.Alpha]⟩, .slice (yg124 4 0).a 1 (yg124 4 0).c, .agg ⟨[.string ⟨⟨y134.Name⟩⟩, .bool y134.Inherited, .int .u8 y134.Initial.Kind, .string ⟨⟨y134.Initial.Word⟩⟩, .int .i64 y134.Initial.Num, .int .u8 y134.Initial.Color.Red, .int .u8 y134.Initial.Color.Green, .int .u8 y134.Initial.Color.Blue, .int .u8 y134.Initial.Color.Alpha, .slice (yg124 5 0).a y134.Words.length (yg124 5 0).c, .slice (yg124 5 1).a y134.Kinds.length (yg124 5 1).c, .bool y134.Least]⟩, .agg ⟨[.string ⟨⟨y139.Name⟩⟩, .bool y139.Inherited, .int .u8 y139.Initial.Kind, .string ⟨⟨y139.Initial.Word⟩⟩, .int .i64 y139.Initial.Num, .int .u8 y139.Initial.Color.Red, .int .u8 y139.Initial.Color.Green, .int .u8 y139.Initial.Color.Blue, .int .u8 y139.Initial.Color.Alpha, .slice (yg124 6 0).a y139.Words.length (yg124 6 0).c, .slice (yg124 6 1).a y139.Kinds.length (yg124 6 1).c, .bool y139.Least]⟩, .agg ⟨[.int .u8 5, .string ⟨⟨[]⟩⟩, .int .i64 1000, .int .u8 0, .int .u8 0, .int .u8 0, .int .u8 0]⟩, .slice (yg124 8 0).a 1 (yg124 8 0).c, .agg ⟨[.string ⟨⟨[111, 112, 97, 99, 105, 116, 121]⟩⟩, .bool false, .int .u8 5, .string ⟨⟨[]⟩⟩, .int .i64 1000, .int .u8 0, .int .u8 0, .int .u8 0, .int .u8 0, .slice none 0 0, .slice (yg124 8 0).a 1 (yg124 8 0).c, .bool false]⟩, .agg ⟨[.int .u8 y3.Kind, .string ⟨⟨y3.Word⟩⟩, .int .i64 y3.Num, .int .u8 y3.Color.Red, .int .u8 y3.Color.Green, .int .u8 y3.Color.Blue, .int .u8 y3.Color.Alpha]⟩, .slice (yg124 11 0).a 1 (yg124 11 0).c, .slice (yg124 12 0).a 1 (yg124 12 0).c, .agg ⟨[.string ⟨⟨[122, 45, 105, 110, 100, 101, 120]⟩⟩, .bool false, .int .u8 y3.Kind, .string ⟨⟨y3.Word⟩⟩, .int .i64 y3.Num, .int .u8 y3.Color.Red, .int .u8 y3.Color.Green, .int .u8 y3.Color.Blue, .int .u8 y3.Color.Alpha, .slice (yg124 11 0).a 1 (yg124 11 0).c, .slice (yg124 12 0).a 1 (yg124 12 0).c, .bool false]⟩, .agg ⟨[.int .u8 6, .string ⟨⟨[]⟩⟩, .int .i64 0, .int .u8 0, .int .u8 0, .int .u8 0, .int .u8 0]⟩, .slice (yg124 15 0).a 1 (yg124 15 0).c, .agg ⟨[.string ⟨⟨[111, 114, 100, 101, 114]⟩⟩, .bool false, .int .u8 6, .string ⟨⟨[]⟩⟩, .int .i64 0, .int .u8 0, .int .u8 0, .int .u8 0, .int .u8 0, .slice none 0 0, .slice (yg124 15 0).a 1 (yg124 15 0).c, .bool false]⟩, .slice (yg124 17 0).a 6 (yg124 17 0).c, .slice (yg124 18 0).a q155.length (yg124 18 0).c, .slice (yg124 18 0).a q155.length (yg124 18 0).c]) (fun yg124 => [[], [], [Ent.own 9 tS y126.Words (yg124 2 0), Ent.own 5 (tI .u8) y126.Kinds (yg124 2 1), Ent.im (tI .u8) ([] : List Int) (.nil)], [], [Ent.own 5 (tI .u8) ([5] : List Int) (yg124 4 0)], [Ent.own 9 tS y134.Words (yg124 5 0), Ent.own 5 (tI .u8) y134.Kinds (yg124 5 1), Ent.im (tI .u8) ([5] : List Int) (yg124 4 0)], [Ent.own 9 tS y139.Words (yg124 6 0), Ent.own 5 (tI .u8) y139.Kinds (yg124 6 1)], [], [Ent.own 5 (tI .u8) ([5] : List Int) (yg124 8 0)], [], [], [Ent.own 9 tS ([[97, 117, 116, 111]] : List Str) (yg124 11 0)], [Ent.own 5 (tI .u8) ([6] : List Int) (yg124 12 0)], [], [], [Ent.own 5 (tI .u8) ([6] : List Int) (yg124 15 0)], [], [Ent.own 68 tyProp ([y126, y134, y139, (TProp.mk [111, 112, 97, 99, 105, 116, 121] false (TVal.mk 5 [] 1000 (TColor.mk 0 0 0 0)) [] ([5] : List Int) false), (TProp.mk [122, 45, 105, 110, 100, 101, 120] false y3 ([[97, 117, 116, 111]] : List Str) ([6] : List Int) false), (TProp.mk [111, 114, 100, 101, 114] false (TVal.mk 6 [] 0 (TColor.mk 0 0 0 0)) [] ([6] : List Int) false)] : List TProp) (yg124 17 0), Ent.im (tI .u8) ([6] : List Int) (yg124 15 0), Ent.im (tI .u8) ([6] : List Int) (yg124 12 0), Ent.im tS ([[97, 117, 116, 111]] : List Str) (yg124 11 0), Ent.im (tI .u8) ([5] : List Int) (yg124 8 0), Ent.im (tI .u8) y139.Kinds (yg124 6 1), Ent.im tS y139.Words (yg124 6 0), Ent.im (tI .u8) y134.Kinds (yg124 5 1), Ent.im tS y134.Words (yg124 5 0), Ent.im (tI .u8) y126.Kinds (yg124 2 1), Ent.im tS y126.Words (yg124 2 0), Ent.im (tI .u8) ([] : List Int) (.nil), Ent.im (tI .u8) ([5] : List Int) (yg124 4 0)], [Ent.own 68 tyProp q155 (yg124 18 0)], []]) [[20], [], [22], [], [], [4, 22], [22], [], [], [8], [21], [], [], [11, 12], [], [], [15], [2, 5, 6, 8, 11, 12, 15], [17, 20], [18]] [[], [], [], [], [], [4], [], [], [], [], [], [], [], [], [], [], [], [2, 5, 6, 8, 11, 12, 15], [20], []] [[0], [1], [1, 2], [3], [4], [3, 4, 5], [6], [7], [8], [7, 8, 9], [10], [11], [12], [10, 11, 12, 13], [14], [15], [14, 15, 16], [1, 2, 3, 4, 5, 6, 7, 8, 9, 10, 11, 12, 13, 14, 15, 16, 17], [0, 1, 2, 3, 4, 5, 6, 7, 8, 9, 10, 11, 12, 13, 14, 15, 16, 17, 18], [0, 1, 2, 3, 4, 5, 6, 7, 8, 9, 10, 11, 12, 13, 14, 15, 16, 17, 18, 19]] [] (FrG.keep (ks := [1, 3]) H (by kernel_rfl)) (fun _ _ h => by cases h) (by kernel_rfl) hS (by kernel_rfl) rfl rfl (by kernel_rfl) (by kernel_rfl) (by kernel_rfl) (gd_none (by kernel_rfl) _ _) ?hloc_yg124 ?hstep_yg124 fun _ wd157 yg124 H158 hv hS => ?hK_yg124
  case hloc_yg124 => exact ⟨(fun _ _ _ _ => ⟨rfl, rfl⟩), (fun _ _ _ _ => ⟨rfl, rfl⟩), (fun yg124 i g hi => by have h2 : updC yg124 i g 2 = yg124 2 := updC_out hi rfl; exact ⟨(show (.agg ⟨[.string ⟨⟨y126.Name⟩⟩, .bool y126.Inherited, .int .u8 y126.Initial.Kind, .string ⟨⟨y126.Initial.Word⟩⟩, .int .i64 y126.Initial.Num, .int .u8 y126.Initial.Color.Red, .int .u8 y126.Initial.Color.Green, .int .u8 y126.Initial.Color.Blue, .int .u8 y126.Initial.Color.Alpha, .slice ((updC yg124 i g) 2 0).a y126.Words.length ((updC yg124 i g) 2 0).c, .slice ((updC yg124 i g) 2 1).a y126.Kinds.length ((updC yg124 i g) 2 1).c, .bool y126.Least]⟩ : Value) = .agg ⟨[.string ⟨⟨y126.Name⟩⟩, .bool y126.Inherited, .int .u8 y126.Initial.Kind, .string ⟨⟨y126.Initial.Word⟩⟩, .int .i64 y126.Initial.Num, .int .u8 y126.Initial.Color.Red, .int .u8 y126.Initial.Color.Green, .int .u8 y126.Initial.Color.Blue, .int .u8 y126.Initial.Color.Alpha, .slice (yg124 2 0).a y126.Words.length (yg124 2 0).c, .slice (yg124 2 1).a y126.Kinds.length (yg124 2 1).c, .bool y126.Least]⟩ by simp only [h2]), (show ([Ent.own 9 tS y126.Words ((updC yg124 i g) 2 0), Ent.own 5 (tI .u8) y126.Kinds ((updC yg124 i g) 2 1), Ent.im (tI .u8) ([] : List Int) (.nil)] : List Ent) = [Ent.own 9 tS y126.Words (yg124 2 0), Ent.own 5 (tI .u8) y126.Kinds (yg124 2 1), Ent.im (tI .u8) ([] : List Int) (.nil)] by simp only [h2])⟩), (fun _ _ _ _ => ⟨rfl, rfl⟩), (fun yg124 i g hi => by have h4 : updC yg124 i g 4 = yg124 4 := updC_out hi rfl; exact ⟨(show (.slice ((updC yg124 i g) 4 0).a 1 ((updC yg124 i g) 4 0).c : Value) = .slice (yg124 4 0).a 1 (yg124 4 0).c by simp only [h4]), (show ([Ent.own 5 (tI .u8) ([5] : List Int) ((updC yg124 i g) 4 0)] : List Ent) = [Ent.own 5 (tI .u8) ([5] : List Int) (yg124 4 0)] by simp only [h4])⟩), (fun yg124 i g hi => by have h4 : updC yg124 i g 4 = yg124 4 := updC_out hi rfl; have h5 : updC yg124 i g 5 = yg124 5 := updC_out hi rfl; exact ⟨(show (.agg ⟨[.string ⟨⟨y134.Name⟩⟩, .bool y134.Inherited, .int .u8 y134.Initial.Kind, .string ⟨⟨y134.Initial.Word⟩⟩, .int .i64 y134.Initial.Num, .int .u8 y134.Initial.Color.Red, .int .u8 y134.Initial.Color.Green, .int .u8 y134.Initial.Color.Blue, .int .u8 y134.Initial.Color.Alpha, .slice ((updC yg124 i g) 5 0).a y134.Words.length ((updC yg124 i g) 5 0).c, .slice ((updC yg124 i g) 5 1).a y134.Kinds.length ((updC yg124 i g) 5 1).c, .bool y134.Least]⟩ : Value) = .agg ⟨[.string ⟨⟨y134.Name⟩⟩, .bool y134.Inherited, .int .u8 y134.Initial.Kind, .string ⟨⟨y134.Initial.Word⟩⟩, .int .i64 y134.Initial.Num, .int .u8 y134.Initial.Color.Red, .int .u8 y134.Initial.Color.Green, .int .u8 y134.Initial.Color.Blue, .int .u8 y134.Initial.Color.Alpha, .slice (yg124 5 0).a y134.Words.length (yg124 5 0).c, .slice (yg124 5 1).a y134.Kinds.length (yg124 5 1).c, .bool y134.Least]⟩ by simp only [h5]), (show ([Ent.own 9 tS y134.Words ((updC yg124 i g) 5 0), Ent.own 5 (tI .u8) y134.Kinds ((updC yg124 i g) 5 1), Ent.im (tI .u8) ([5] : List Int) ((updC yg124 i g) 4 0)] : List Ent) = [Ent.own 9 tS y134.Words (yg124 5 0), Ent.own 5 (tI .u8) y134.Kinds (yg124 5 1), Ent.im (tI .u8) ([5] : List Int) (yg124 4 0)] by simp only [h4, h5])⟩), (fun yg124 i g hi => by have h6 : updC yg124 i g 6 = yg124 6 := updC_out hi rfl; exact ⟨(show (.agg ⟨[.string ⟨⟨y139.Name⟩⟩, .bool y139.Inherited, .int .u8 y139.Initial.Kind, .string ⟨⟨y139.Initial.Word⟩⟩, .int .i64 y139.Initial.Num, .int .u8 y139.Initial.Color.Red, .int .u8 y139.Initial.Color.Green, .int .u8 y139.Initial.Color.Blue, .int .u8 y139.Initial.Color.Alpha, .slice ((updC yg124 i g) 6 0).a y139.Words.length ((updC yg124 i g) 6 0).c, .slice ((updC yg124 i g) 6 1).a y139.Kinds.length ((updC yg124 i g) 6 1).c, .bool y139.Least]⟩ : Value) = .agg ⟨[.string ⟨⟨y139.Name⟩⟩, .bool y139.Inherited, .int .u8 y139.Initial.Kind, .string ⟨⟨y139.Initial.Word⟩⟩, .int .i64 y139.Initial.Num, .int .u8 y139.Initial.Color.Red, .int .u8 y139.Initial.Color.Green, .int .u8 y139.Initial.Color.Blue, .int .u8 y139.Initial.Color.Alpha, .slice (yg124 6 0).a y139.Words.length (yg124 6 0).c, .slice (yg124 6 1).a y139.Kinds.length (yg124 6 1).c, .bool y139.Least]⟩ by simp only [h6]), (show ([Ent.own 9 tS y139.Words ((updC yg124 i g) 6 0), Ent.own 5 (tI .u8) y139.Kinds ((updC yg124 i g) 6 1)] : List Ent) = [Ent.own 9 tS y139.Words (yg124 6 0), Ent.own 5 (tI .u8) y139.Kinds (yg124 6 1)] by simp only [h6])⟩), (fun _ _ _ _ => ⟨rfl, rfl⟩), (fun yg124 i g hi => by have h8 : updC yg124 i g 8 = yg124 8 := updC_out hi rfl; exact ⟨(show (.slice ((updC yg124 i g) 8 0).a 1 ((updC yg124 i g) 8 0).c : Value) = .slice (yg124 8 0).a 1 (yg124 8 0).c by simp only [h8]), (show ([Ent.own 5 (tI .u8) ([5] : List Int) ((updC yg124 i g) 8 0)] : List Ent) = [Ent.own 5 (tI .u8) ([5] : List Int) (yg124 8 0)] by simp only [h8])⟩), (fun yg124 i g hi => by have h8 : updC yg124 i g 8 = yg124 8 := updC_out hi rfl; exact ⟨(show (.agg ⟨[.string ⟨⟨[111, 112, 97, 99, 105, 116, 121]⟩⟩, .bool false, .int .u8 5, .string ⟨⟨[]⟩⟩, .int .i64 1000, .int .u8 0, .int .u8 0, .int .u8 0, .int .u8 0, .slice none 0 0, .slice ((updC yg124 i g) 8 0).a 1 ((updC yg124 i g) 8 0).c, .bool false]⟩ : Value) = .agg ⟨[.string ⟨⟨[111, 112, 97, 99, 105, 116, 121]⟩⟩, .bool false, .int .u8 5, .string ⟨⟨[]⟩⟩, .int .i64 1000, .int .u8 0, .int .u8 0, .int .u8 0, .int .u8 0, .slice none 0 0, .slice (yg124 8 0).a 1 (yg124 8 0).c, .bool false]⟩ by simp only [h8]), (show ([] : List Ent) = [] by simp only [])⟩), (fun _ _ _ _ => ⟨rfl, rfl⟩), (fun yg124 i g hi => by have h11 : updC yg124 i g 11 = yg124 11 := updC_out hi rfl; exact ⟨(show (.slice ((updC yg124 i g) 11 0).a 1 ((updC yg124 i g) 11 0).c : Value) = .slice (yg124 11 0).a 1 (yg124 11 0).c by simp only [h11]), (show ([Ent.own 9 tS ([[97, 117, 116, 111]] : List Str) ((updC yg124 i g) 11 0)] : List Ent) = [Ent.own 9 tS ([[97, 117, 116, 111]] : List Str) (yg124 11 0)] by simp only [h11])⟩), (fun yg124 i g hi => by have h12 : updC yg124 i g 12 = yg124 12 := updC_out hi rfl; exact ⟨(show (.slice ((updC yg124 i g) 12 0).a 1 ((updC yg124 i g) 12 0).c : Value) = .slice (yg124 12 0).a 1 (yg124 12 0).c by simp only [h12]), (show ([Ent.own 5 (tI .u8) ([6] : List Int) ((updC yg124 i g) 12 0)] : List Ent) = [Ent.own 5 (tI .u8) ([6] : List Int) (yg124 12 0)] by simp only [h12])⟩), (fun yg124 i g hi => by have h11 : updC yg124 i g 11 = yg124 11 := updC_out hi rfl; have h12 : updC yg124 i g 12 = yg124 12 := updC_out hi rfl; exact ⟨(show (.agg ⟨[.string ⟨⟨[122, 45, 105, 110, 100, 101, 120]⟩⟩, .bool false, .int .u8 y3.Kind, .string ⟨⟨y3.Word⟩⟩, .int .i64 y3.Num, .int .u8 y3.Color.Red, .int .u8 y3.Color.Green, .int .u8 y3.Color.Blue, .int .u8 y3.Color.Alpha, .slice ((updC yg124 i g) 11 0).a 1 ((updC yg124 i g) 11 0).c, .slice ((updC yg124 i g) 12 0).a 1 ((updC yg124 i g) 12 0).c, .bool false]⟩ : Value) = .agg ⟨[.string ⟨⟨[122, 45, 105, 110, 100, 101, 120]⟩⟩, .bool false, .int .u8 y3.Kind, .string ⟨⟨y3.Word⟩⟩, .int .i64 y3.Num, .int .u8 y3.Color.Red, .int .u8 y3.Color.Green, .int .u8 y3.Color.Blue, .int .u8 y3.Color.Alpha, .slice (yg124 11 0).a 1 (yg124 11 0).c, .slice (yg124 12 0).a 1 (yg124 12 0).c, .bool false]⟩ by simp only [h11, h12]), (show ([] : List Ent) = [] by simp only [])⟩), (fun _ _ _ _ => ⟨rfl, rfl⟩), (fun yg124 i g hi => by have h15 : updC yg124 i g 15 = yg124 15 := updC_out hi rfl; exact ⟨(show (.slice ((updC yg124 i g) 15 0).a 1 ((updC yg124 i g) 15 0).c : Value) = .slice (yg124 15 0).a 1 (yg124 15 0).c by simp only [h15]), (show ([Ent.own 5 (tI .u8) ([6] : List Int) ((updC yg124 i g) 15 0)] : List Ent) = [Ent.own 5 (tI .u8) ([6] : List Int) (yg124 15 0)] by simp only [h15])⟩), (fun yg124 i g hi => by have h15 : updC yg124 i g 15 = yg124 15 := updC_out hi rfl; exact ⟨(show (.agg ⟨[.string ⟨⟨[111, 114, 100, 101, 114]⟩⟩, .bool false, .int .u8 6, .string ⟨⟨[]⟩⟩, .int .i64 0, .int .u8 0, .int .u8 0, .int .u8 0, .int .u8 0, .slice none 0 0, .slice ((updC yg124 i g) 15 0).a 1 ((updC yg124 i g) 15 0).c, .bool false]⟩ : Value) = .agg ⟨[.string ⟨⟨[111, 114, 100, 101, 114]⟩⟩, .bool false, .int .u8 6, .string ⟨⟨[]⟩⟩, .int .i64 0, .int .u8 0, .int .u8 0, .int .u8 0, .int .u8 0, .slice none 0 0, .slice (yg124 15 0).a 1 (yg124 15 0).c, .bool false]⟩ by simp only [h15]), (show ([] : List Ent) = [] by simp only [])⟩), (fun yg124 i g hi => by have h2 : updC yg124 i g 2 = yg124 2 := updC_out hi rfl; have h4 : updC yg124 i g 4 = yg124 4 := updC_out hi rfl; have h5 : updC yg124 i g 5 = yg124 5 := updC_out hi rfl; have h6 : updC yg124 i g 6 = yg124 6 := updC_out hi rfl; have h8 : updC yg124 i g 8 = yg124 8 := updC_out hi rfl; have h11 : updC yg124 i g 11 = yg124 11 := updC_out hi rfl; have h12 : updC yg124 i g 12 = yg124 12 := updC_out hi rfl; have h15 : updC yg124 i g 15 = yg124 15 := updC_out hi rfl; have h17 : updC yg124 i g 17 = yg124 17 := updC_out hi rfl; exact ⟨(show (.slice ((updC yg124 i g) 17 0).a 6 ((updC yg124 i g) 17 0).c : Value) = .slice (yg124 17 0).a 6 (yg124 17 0).c by simp only [h17]), (show ([Ent.own 68 tyProp ([y126, y134, y139, (TProp.mk [111, 112, 97, 99, 105, 116, 121] false (TVal.mk 5 [] 1000 (TColor.mk 0 0 0 0)) [] ([5] : List Int) false), (TProp.mk [122, 45, 105, 110, 100, 101, 120] false y3 ([[97, 117, 116, 111]] : List Str) ([6] : List Int) false), (TProp.mk [111, 114, 100, 101, 114] false (TVal.mk 6 [] 0 (TColor.mk 0 0 0 0)) [] ([6] : List Int) false)] : List TProp) ((updC yg124 i g) 17 0), Ent.im (tI .u8) ([6] : List Int) ((updC yg124 i g) 15 0), Ent.im (tI .u8) ([6] : List Int) ((updC yg124 i g) 12 0), Ent.im tS ([[97, 117, 116, 111]] : List Str) ((updC yg124 i g) 11 0), Ent.im (tI .u8) ([5] : List Int) ((updC yg124 i g) 8 0), Ent.im (tI .u8) y139.Kinds ((updC yg124 i g) 6 1), Ent.im tS y139.Words ((updC yg124 i g) 6 0), Ent.im (tI .u8) y134.Kinds ((updC yg124 i g) 5 1), Ent.im tS y134.Words ((updC yg124 i g) 5 0), Ent.im (tI .u8) y126.Kinds ((updC yg124 i g) 2 1), Ent.im tS y126.Words ((updC yg124 i g) 2 0), Ent.im (tI .u8) ([] : List Int) (.nil), Ent.im (tI .u8) ([5] : List Int) ((updC yg124 i g) 4 0)] : List Ent) = [Ent.own 68 tyProp ([y126, y134, y139, (TProp.mk [111, 112, 97, 99, 105, 116, 121] false (TVal.mk 5 [] 1000 (TColor.mk 0 0 0 0)) [] ([5] : List Int) false), (TProp.mk [122, 45, 105, 110, 100, 101, 120] false y3 ([[97, 117, 116, 111]] : List Str) ([6] : List Int) false), (TProp.mk [111, 114, 100, 101, 114] false (TVal.mk 6 [] 0 (TColor.mk 0 0 0 0)) [] ([6] : List Int) false)] : List TProp) (yg124 17 0), Ent.im (tI .u8) ([6] : List Int) (yg124 15 0), Ent.im (tI .u8) ([6] : List Int) (yg124 12 0), Ent.im tS ([[97, 117, 116, 111]] : List Str) (yg124 11 0), Ent.im (tI .u8) ([5] : List Int) (yg124 8 0), Ent.im (tI .u8) y139.Kinds (yg124 6 1), Ent.im tS y139.Words (yg124 6 0), Ent.im (tI .u8) y134.Kinds (yg124 5 1), Ent.im tS y134.Words (yg124 5 0), Ent.im (tI .u8) y126.Kinds (yg124 2 1), Ent.im tS y126.Words (yg124 2 0), Ent.im (tI .u8) ([] : List Int) (.nil), Ent.im (tI .u8) ([5] : List Int) (yg124 4 0)] by simp only [h2, h4, h5, h6, h8, h11, h12, h15, h17])⟩), (fun yg124 i g hi => by have h18 : updC yg124 i g 18 = yg124 18 := updC_out hi rfl; exact ⟨(show (.slice ((updC yg124 i g) 18 0).a q155.length ((updC yg124 i g) 18 0).c : Value) = .slice (yg124 18 0).a q155.length (yg124 18 0).c by simp only [h18]), (show ([Ent.own 68 tyProp q155 ((updC yg124 i g) 18 0)] : List Ent) = [Ent.own 68 tyProp q155 (yg124 18 0)] by simp only [h18])⟩), (fun yg124 i g hi => by have h18 : updC yg124 i g 18 = yg124 18 := updC_out hi rfl; exact ⟨(show (.slice ((updC yg124 i g) 18 0).a q155.length ((updC yg124 i g) 18 0).c : Value) = .slice (yg124 18 0).a q155.length (yg124 18 0).c by simp only [h18]), (show ([] : List Ent) = [] by simp only [])⟩), trivial⟩
  case hstep_yg124 =>
   refine ⟨?_, ?_, ?_, ?_, ?_, ?_, ?_, ?_, ?_, ?_, ?_, ?_, ?_, ?_, ?_, ?_, ?_, ?_, ?_, ?_, trivial⟩
   ·intro o ho a w yg124 M Hb hv hO hS0
    obtain rfl := Option.some.inj ho
    have H : Fr 57 ([] ++ [(1, [], .pointer (some ⟨b6, 0, none⟩)), (3, [], .slice g123.a z81.length g123.c)]) _ := Hb
    obtain ⟨X, hX⟩ : ∃ X, X = fpl [Ent.own 68 tyProp z81 g123] := ⟨_, rfl⟩
    have hS : SH M X w [Ent.own 68 tyProp z81 g123] w := by rw [hX]; exact hS0
    refine Stp.mono (o_evs [] (.slice g123.a z81.length g123.c) none [] H rfl (by kernel_rfl) (fun q e => by cases e)) ?_
    rintro v w2 ⟨rfl, hq⟩
    replace hS : SH M X w [Ent.own 68 tyProp z81 g123] _ := hS.below hq.below
    rw [hX] at hS
    exact ⟨gL [], fun _ _ => rfl, hS.sel [0] rfl⟩
   ·intro o ho a w yg124 M Hb hv hO hS0
    obtain rfl := Option.some.inj ho
    have H : Fr 57 ([] ++ [(1, [], .pointer (some ⟨b6, 0, none⟩)), (3, [], .slice g123.a z81.length g123.c)]) _ := Hb
    obtain ⟨X, hX⟩ : ∃ X, X = fpl [] := ⟨_, rfl⟩
    have hS : SH M X w [] w := by rw [hX]; exact hS0
    refine Stp.mono (o_evs [] (.agg ⟨[.int .u8 2, .string ⟨⟨[]⟩⟩, .int .i64 16000, .int .u8 0, .int .u8 0, .int .u8 0, .int .u8 0]⟩) none [] H rfl (by kernel_rfl) (fun q e => by cases e)) ?_
    rintro v w2 ⟨rfl, hq⟩
    replace hS : SH M X w [] _ := hS.below hq.below
    rw [hX] at hS
    exact ⟨gL [], fun _ _ => rfl, hS.sel [] rfl⟩
   ·intro o ho a w yg124 M Hb hv hO hS0
    obtain rfl := Option.some.inj ho
    have H : Fr 57 ([(39, [], .agg ⟨[.int .u8 2, .string ⟨⟨[]⟩⟩, .int .i64 16000, .int .u8 0, .int .u8 0, .int .u8 0, .int .u8 0]⟩)] ++ [(1, [], .pointer (some ⟨b6, 0, none⟩)), (3, [], .slice g123.a z81.length g123.c)]) _ := (Hb).add (hv 1 (by decide) (by decide) 39 rfl)
    obtain ⟨X, hX⟩ : ∃ X, X = fpl [gE0] := ⟨_, rfl⟩
    have hS : SH M X w [gE0] w := by rw [hX]; exact hS0
    replace hS : SH M X w [Ent.own 5 (tI .u8) ([] : List Int) (.nil), gE0] _ := hS.addNil 5 (tI .u8)
    replace hS : SH M X w [Ent.im (tI .u8) ([] : List Int) (.nil), gE0] _ := SH.frz1 (hS.sel [0, 1] rfl)
    have hd := hS.hand [0, 1] [0, 1] rfl rfl
    refine Stp.mono (o_callx H rfl rfl (props_length_ok (g_more := Gh.nil) m _ _ _ _ _ _ _ hy126 _ _ hd)) ?_
    rintro v w2 hq
    obtain ⟨g127, g129, rfl, hq⟩ := hq
    replace hS : SH M X w [Ent.own 9 tS y126.Words g127, Ent.own 5 (tI .u8) y126.Kinds g129, Ent.im (tI .u8) ([] : List Int) (.nil), gE0] _ := hS.join [0, 1] [0, 1] rfl rfl hq
    clear hq
    rw [hX] at hS
    exact ⟨gL [g127, g129], fun _ _ => rfl, hS.sel [0, 1, 2, 3] rfl⟩
   ·intro o ho a w yg124 M Hb hv hO hS0
    obtain rfl := Option.some.inj ho
    have H : Fr 57 ([] ++ [(1, [], .pointer (some ⟨b6, 0, none⟩)), (3, [], .slice g123.a z81.length g123.c)]) _ := Hb
    obtain ⟨X, hX⟩ : ∃ X, X = fpl [] := ⟨_, rfl⟩
    have hS : SH M X w [] w := by rw [hX]; exact hS0
    refine Stp.mono (o_evs [(.agg ⟨[.int .u8 y131.Kind, .string ⟨⟨y131.Word⟩⟩, .int .i64 y131.Num, .int .u8 y131.Color.Red, .int .u8 y131.Color.Green, .int .u8 y131.Color.Blue, .int .u8 y131.Color.Alpha]⟩)] (.agg ⟨[.int .u8 y131.Kind, .string ⟨⟨y131.Word⟩⟩, .int .i64 y131.Num, .int .u8 y131.Color.Red, .int .u8 y131.Color.Green, .int .u8 y131.Color.Blue, .int .u8 y131.Color.Alpha]⟩) (some (fun wz => RetB Tryd.prog 43 ⟨[.string ⟨⟨[110, 111, 114, 109, 97, 108]⟩⟩]⟩ (.agg ⟨[.int .u8 y131.Kind, .string ⟨⟨y131.Word⟩⟩, .int .i64 y131.Num, .int .u8 y131.Color.Red, .int .u8 y131.Color.Green, .int .u8 y131.Color.Blue, .int .u8 y131.Color.Alpha]⟩) wz)) [] H rfl (by subst hy131; kernel_rfl) (fun q e => by cases e; exact ((by rw [hy131]; exact (props_word_ok _).b)))) ?_
    rintro v w2 ⟨rfl, hq⟩
    replace hS : SH M X w [] _ := hS.below hq.below
    rw [hX] at hS
    exact ⟨gL [], fun _ _ => rfl, hS.sel [] rfl⟩
   ·intro o ho a w yg124 M Hb hv hO hS0
    obtain rfl := Option.some.inj ho
    have H : Fr 57 ([] ++ [(1, [], .pointer (some ⟨b6, 0, none⟩)), (3, [], .slice g123.a z81.length g123.c)]) _ := Hb
    obtain ⟨X, hX⟩ : ∃ X, X = fpl [] := ⟨_, rfl⟩
    have hS : SH M X w [] w := by rw [hX]; exact hS0
    have hd := hS.hand [] [] rfl rfl
    refine Stp.mono (o_lit (T := (tI .u8)) (E := 5) (zv := .int .u8 0) [.int .u8 5] ([5] : List Int) [gL []] _ H hd rfl (by kernel_rfl) (by kernel_rfl) (by kernel_rfl) (by kernel_rfl) (by kernel_rfl) (by kernel_rfl) (by kernel_rfl) rfl (InnL.cons trivial InnL.nil)) ?_
    rintro v w2 hq
    obtain ⟨g132, rfl, hq⟩ := hq
    replace hS : SH M X w [Ent.own 5 (tI .u8) ([5] : List Int) g132] _ := hS.join [] [] rfl rfl hq
    clear hq
    rw [hX] at hS
    exact ⟨gL [g132], fun _ _ => rfl, hS.sel [0] rfl⟩
   ·intro o ho a w yg124 M Hb hv hO hS0
    obtain rfl := Option.some.inj ho
    have H : Fr 57 ([(42, [], .slice (yg124 4 0).a 1 (yg124 4 0).c), (41, [], .agg ⟨[.int .u8 y131.Kind, .string ⟨⟨y131.Word⟩⟩, .int .i64 y131.Num, .int .u8 y131.Color.Red, .int .u8 y131.Color.Green, .int .u8 y131.Color.Blue, .int .u8 y131.Color.Alpha]⟩)] ++ [(1, [], .pointer (some ⟨b6, 0, none⟩)), (3, [], .slice g123.a z81.length g123.c)]) _ := ((Hb).add (hv 3 (by decide) (by decide) 41 rfl)).add (hv 4 (by decide) (by decide) 42 rfl)
    obtain ⟨X, hX⟩ : ∃ X, X = fpl [Ent.own 5 (tI .u8) ([5] : List Int) (yg124 4 0), gE0] := ⟨_, rfl⟩
    have hS : SH M X w [Ent.own 5 (tI .u8) ([5] : List Int) (yg124 4 0), gE0] w := by rw [hX]; exact hS0
    replace hS : SH M X w [Ent.im (tI .u8) ([5] : List Int) (yg124 4 0), gE0] _ := SH.frz1 (hS.sel [0, 1] rfl)
    have hd := hS.hand [0, 1] [0, 1] rfl rfl
    refine Stp.mono (o_callx H rfl rfl (props_length_ok (g_more := (yg124 4 0)) m _ _ _ _ _ _ _ hy134 _ _ hd)) ?_
    rintro v w2 hq
    obtain ⟨g135, g137, rfl, hq⟩ := hq
    replace hS : SH M X w [Ent.own 9 tS y134.Words g135, Ent.own 5 (tI .u8) y134.Kinds g137, Ent.im (tI .u8) ([5] : List Int) (yg124 4 0), gE0] _ := hS.join [0, 1] [0, 1] rfl rfl hq
    clear hq
    rw [hX] at hS
    exact ⟨gL [g135, g137], fun _ _ => rfl, hS.sel [0, 1, 2, 3] rfl⟩
   ·intro o ho a w yg124 M Hb hv hO hS0
    obtain rfl := Option.some.inj ho
    have H : Fr 57 ([] ++ [(1, [], .pointer (some ⟨b6, 0, none⟩)), (3, [], .slice g123.a z81.length g123.c)]) _ := Hb
    obtain ⟨X, hX⟩ : ∃ X, X = fpl [gE0] := ⟨_, rfl⟩
    have hS : SH M X w [gE0] w := by rw [hX]; exact hS0
    have hd := hS.hand [0] [0] rfl rfl
    refine Stp.mono (o_callx H rfl rfl (props_words_ok m _ _ _ _ _ hy139 _ _ hd)) ?_
    rintro v w2 hq
    obtain ⟨g140, g142, rfl, hq⟩ := hq
    replace hS : SH M X w [Ent.own 9 tS y139.Words g140, Ent.own 5 (tI .u8) y139.Kinds g142, gE0] _ := hS.join [0] [0] rfl rfl hq
    clear hq
    rw [hX] at hS
    exact ⟨gL [g140, g142], fun _ _ => rfl, hS.sel [0, 1, 2] rfl⟩
   ·intro o ho a w yg124 M Hb hv hO hS0
    obtain rfl := Option.some.inj ho
    have H : Fr 57 ([] ++ [(1, [], .pointer (some ⟨b6, 0, none⟩)), (3, [], .slice g123.a z81.length g123.c)]) _ := Hb
    obtain ⟨X, hX⟩ : ∃ X, X = fpl [] := ⟨_, rfl⟩
    have hS : SH M X w [] w := by rw [hX]; exact hS0
    refine Stp.mono (o_evs [] (.agg ⟨[.int .u8 5, .string ⟨⟨[]⟩⟩, .int .i64 1000, .int .u8 0, .int .u8 0, .int .u8 0, .int .u8 0]⟩) none [] H rfl (by kernel_rfl) (fun q e => by cases e)) ?_
    rintro v w2 ⟨rfl, hq⟩
    replace hS : SH M X w [] _ := hS.below hq.below
    rw [hX] at hS
    exact ⟨gL [], fun _ _ => rfl, hS.sel [] rfl⟩
   ·intro o ho a w yg124 M Hb hv hO hS0
    obtain rfl := Option.some.inj ho
    have H : Fr 57 ([] ++ [(1, [], .pointer (some ⟨b6, 0, none⟩)), (3, [], .slice g123.a z81.length g123.c)]) _ := Hb
    obtain ⟨X, hX⟩ : ∃ X, X = fpl [] := ⟨_, rfl⟩
    have hS : SH M X w [] w := by rw [hX]; exact hS0
    have hd := hS.hand [] [] rfl rfl
    refine Stp.mono (o_lit (T := (tI .u8)) (E := 5) (zv := .int .u8 0) [.int .u8 5] ([5] : List Int) [gL []] _ H hd rfl (by kernel_rfl) (by kernel_rfl) (by kernel_rfl) (by kernel_rfl) (by kernel_rfl) (by kernel_rfl) (by kernel_rfl) rfl (InnL.cons trivial InnL.nil)) ?_
    rintro v w2 hq
    obtain ⟨g144, rfl, hq⟩ := hq
    replace hS : SH M X w [Ent.own 5 (tI .u8) ([5] : List Int) g144] _ := hS.join [] [] rfl rfl hq
    clear hq
    rw [hX] at hS
    exact ⟨gL [g144], fun _ _ => rfl, hS.sel [0] rfl⟩
   ·intro o ho a w yg124 M Hb hv hO hS0
    obtain rfl := Option.some.inj ho
    have H : Fr 57 ([(46, [], .slice (yg124 8 0).a 1 (yg124 8 0).c), (45, [], .agg ⟨[.int .u8 5, .string ⟨⟨[]⟩⟩, .int .i64 1000, .int .u8 0, .int .u8 0, .int .u8 0, .int .u8 0]⟩)] ++ [(1, [], .pointer (some ⟨b6, 0, none⟩)), (3, [], .slice g123.a z81.length g123.c)]) _ := ((Hb).add (hv 7 (by decide) (by decide) 45 rfl)).add (hv 8 (by decide) (by decide) 46 rfl)
    obtain ⟨X, hX⟩ : ∃ X, X = fpl [Ent.own 5 (tI .u8) ([5] : List Int) (yg124 8 0)] := ⟨_, rfl⟩
    have hS : SH M X w [Ent.own 5 (tI .u8) ([5] : List Int) (yg124 8 0)] w := by rw [hX]; exact hS0
    refine Stp.mono (o_evs [] (.agg ⟨[.string ⟨⟨[111, 112, 97, 99, 105, 116, 121]⟩⟩, .bool false, .int .u8 5, .string ⟨⟨[]⟩⟩, .int .i64 1000, .int .u8 0, .int .u8 0, .int .u8 0, .int .u8 0, .slice none 0 0, .slice (yg124 8 0).a 1 (yg124 8 0).c, .bool false]⟩) none [] H rfl (by kernel_rfl) (fun q e => by cases e)) ?_
    rintro v w2 ⟨rfl, hq⟩
    replace hS : SH M X w [Ent.own 5 (tI .u8) ([5] : List Int) (yg124 8 0)] _ := hS.below hq.below
    rw [hX] at hS
    exact ⟨gL [], fun _ _ => rfl, hS.sel [0] rfl⟩
   ·intro o ho a w yg124 M Hb hv hO hS0
    obtain rfl := Option.some.inj ho
    have H : Fr 57 ([] ++ [(1, [], .pointer (some ⟨b6, 0, none⟩)), (3, [], .slice g123.a z81.length g123.c)]) _ := Hb
    obtain ⟨X, hX⟩ : ∃ X, X = fpl [Ent.blk b6 [.int .u8 y3.Kind, .string ⟨⟨y3.Word⟩⟩, .int .i64 y3.Num, .int .u8 y3.Color.Red, .int .u8 y3.Color.Green, .int .u8 y3.Color.Blue, .int .u8 y3.Color.Alpha]] := ⟨_, rfl⟩
    have hS : SH M X w [Ent.blk b6 [.int .u8 y3.Kind, .string ⟨⟨y3.Word⟩⟩, .int .i64 y3.Num, .int .u8 y3.Color.Red, .int .u8 y3.Color.Green, .int .u8 y3.Color.Blue, .int .u8 y3.Color.Alpha]] w := by rw [hX]; exact hS0
    refine Stp.mono (o_evs [(.agg ⟨[.int .u8 y3.Kind, .string ⟨⟨y3.Word⟩⟩, .int .i64 y3.Num, .int .u8 y3.Color.Red, .int .u8 y3.Color.Green, .int .u8 y3.Color.Blue, .int .u8 y3.Color.Alpha]⟩)] (.agg ⟨[.int .u8 y3.Kind, .string ⟨⟨y3.Word⟩⟩, .int .i64 y3.Num, .int .u8 y3.Color.Red, .int .u8 y3.Color.Green, .int .u8 y3.Color.Blue, .int .u8 y3.Color.Alpha]⟩) (some (fun wz => V.atN b6 0 [.int .u8 y3.Kind, .string ⟨⟨y3.Word⟩⟩, .int .i64 y3.Num, .int .u8 y3.Color.Red, .int .u8 y3.Color.Green, .int .u8 y3.Color.Blue, .int .u8 y3.Color.Alpha] 0 wz)) [] H rfl (by kernel_rfl) (fun q e => by cases e; exact ((hS.bk 0 rfl).atD rfl))) ?_
    rintro v w2 ⟨rfl, hq⟩
    replace hS : SH M X w [Ent.blk b6 [.int .u8 y3.Kind, .string ⟨⟨y3.Word⟩⟩, .int .i64 y3.Num, .int .u8 y3.Color.Red, .int .u8 y3.Color.Green, .int .u8 y3.Color.Blue, .int .u8 y3.Color.Alpha]] _ := hS.below hq.below
    rw [hX] at hS
    exact ⟨gL [], fun _ _ => rfl, hS.sel [0] rfl⟩
   ·intro o ho a w yg124 M Hb hv hO hS0
    obtain rfl := Option.some.inj ho
    have H : Fr 57 ([] ++ [(1, [], .pointer (some ⟨b6, 0, none⟩)), (3, [], .slice g123.a z81.length g123.c)]) _ := Hb
    obtain ⟨X, hX⟩ : ∃ X, X = fpl [] := ⟨_, rfl⟩
    have hS : SH M X w [] w := by rw [hX]; exact hS0
    have hd := hS.hand [] [] rfl rfl
    refine Stp.mono (o_lit (T := tS) (E := 9) (zv := .string ⟨⟨[]⟩⟩) [.string ⟨⟨[97, 117, 116, 111]⟩⟩] ([[97, 117, 116, 111]] : List Str) [gL []] _ H hd rfl (by kernel_rfl) (by kernel_rfl) (by kernel_rfl) (by kernel_rfl) (by kernel_rfl) (by kernel_rfl) (by kernel_rfl) rfl (InnL.cons trivial InnL.nil)) ?_
    rintro v w2 hq
    obtain ⟨g146, rfl, hq⟩ := hq
    replace hS : SH M X w [Ent.own 9 tS ([[97, 117, 116, 111]] : List Str) g146] _ := hS.join [] [] rfl rfl hq
    clear hq
    rw [hX] at hS
    exact ⟨gL [g146], fun _ _ => rfl, hS.sel [0] rfl⟩
   ·intro o ho a w yg124 M Hb hv hO hS0
    obtain rfl := Option.some.inj ho
    have H : Fr 57 ([] ++ [(1, [], .pointer (some ⟨b6, 0, none⟩)), (3, [], .slice g123.a z81.length g123.c)]) _ := Hb
    obtain ⟨X, hX⟩ : ∃ X, X = fpl [] := ⟨_, rfl⟩
    have hS : SH M X w [] w := by rw [hX]; exact hS0
    have hd := hS.hand [] [] rfl rfl
    refine Stp.mono (o_lit (T := (tI .u8)) (E := 5) (zv := .int .u8 0) [.int .u8 6] ([6] : List Int) [gL []] _ H hd rfl (by kernel_rfl) (by kernel_rfl) (by kernel_rfl) (by kernel_rfl) (by kernel_rfl) (by kernel_rfl) (by kernel_rfl) rfl (InnL.cons trivial InnL.nil)) ?_
    rintro v w2 hq
    obtain ⟨g148, rfl, hq⟩ := hq
    replace hS : SH M X w [Ent.own 5 (tI .u8) ([6] : List Int) g148] _ := hS.join [] [] rfl rfl hq
    clear hq
    rw [hX] at hS
    exact ⟨gL [g148], fun _ _ => rfl, hS.sel [0] rfl⟩
   ·intro o ho a w yg124 M Hb hv hO hS0
    obtain rfl := Option.some.inj ho
    have H : Fr 57 ([(50, [], .slice (yg124 12 0).a 1 (yg124 12 0).c), (49, [], .slice (yg124 11 0).a 1 (yg124 11 0).c), (48, [], .agg ⟨[.int .u8 y3.Kind, .string ⟨⟨y3.Word⟩⟩, .int .i64 y3.Num, .int .u8 y3.Color.Red, .int .u8 y3.Color.Green, .int .u8 y3.Color.Blue, .int .u8 y3.Color.Alpha]⟩)] ++ [(1, [], .pointer (some ⟨b6, 0, none⟩)), (3, [], .slice g123.a z81.length g123.c)]) _ := (((Hb).add (hv 10 (by decide) (by decide) 48 rfl)).add (hv 11 (by decide) (by decide) 49 rfl)).add (hv 12 (by decide) (by decide) 50 rfl)
    obtain ⟨X, hX⟩ : ∃ X, X = fpl [Ent.own 9 tS ([[97, 117, 116, 111]] : List Str) (yg124 11 0), Ent.own 5 (tI .u8) ([6] : List Int) (yg124 12 0)] := ⟨_, rfl⟩
    have hS : SH M X w [Ent.own 9 tS ([[97, 117, 116, 111]] : List Str) (yg124 11 0), Ent.own 5 (tI .u8) ([6] : List Int) (yg124 12 0)] w := by rw [hX]; exact hS0
    refine Stp.mono (o_evs [] (.agg ⟨[.string ⟨⟨[122, 45, 105, 110, 100, 101, 120]⟩⟩, .bool false, .int .u8 y3.Kind, .string ⟨⟨y3.Word⟩⟩, .int .i64 y3.Num, .int .u8 y3.Color.Red, .int .u8 y3.Color.Green, .int .u8 y3.Color.Blue, .int .u8 y3.Color.Alpha, .slice (yg124 11 0).a 1 (yg124 11 0).c, .slice (yg124 12 0).a 1 (yg124 12 0).c, .bool false]⟩) none [] H rfl (by kernel_rfl) (fun q e => by cases e)) ?_
    rintro v w2 ⟨rfl, hq⟩
    replace hS : SH M X w [Ent.own 9 tS ([[97, 117, 116, 111]] : List Str) (yg124 11 0), Ent.own 5 (tI .u8) ([6] : List Int) (yg124 12 0)] _ := hS.below hq.below
    rw [hX] at hS
    exact ⟨gL [], fun _ _ => rfl, hS.sel [0, 1] rfl⟩
   ·intro o ho a w yg124 M Hb hv hO hS0
    obtain rfl := Option.some.inj ho
    have H : Fr 57 ([] ++ [(1, [], .pointer (some ⟨b6, 0, none⟩)), (3, [], .slice g123.a z81.length g123.c)]) _ := Hb
    obtain ⟨X, hX⟩ : ∃ X, X = fpl [] := ⟨_, rfl⟩
    have hS : SH M X w [] w := by rw [hX]; exact hS0
    refine Stp.mono (o_evs [] (.agg ⟨[.int .u8 6, .string ⟨⟨[]⟩⟩, .int .i64 0, .int .u8 0, .int .u8 0, .int .u8 0, .int .u8 0]⟩) none [] H rfl (by kernel_rfl) (fun q e => by cases e)) ?_
    rintro v w2 ⟨rfl, hq⟩
    replace hS : SH M X w [] _ := hS.below hq.below
    rw [hX] at hS
    exact ⟨gL [], fun _ _ => rfl, hS.sel [] rfl⟩
   ·intro o ho a w yg124 M Hb hv hO hS0
    obtain rfl := Option.some.inj ho
    have H : Fr 57 ([] ++ [(1, [], .pointer (some ⟨b6, 0, none⟩)), (3, [], .slice g123.a z81.length g123.c)]) _ := Hb
    obtain ⟨X, hX⟩ : ∃ X, X = fpl [] := ⟨_, rfl⟩
    have hS : SH M X w [] w := by rw [hX]; exact hS0
    have hd := hS.hand [] [] rfl rfl
    refine Stp.mono (o_lit (T := (tI .u8)) (E := 5) (zv := .int .u8 0) [.int .u8 6] ([6] : List Int) [gL []] _ H hd rfl (by kernel_rfl) (by kernel_rfl) (by kernel_rfl) (by kernel_rfl) (by kernel_rfl) (by kernel_rfl) (by kernel_rfl) rfl (InnL.cons trivial InnL.nil)) ?_
    rintro v w2 hq
    obtain ⟨g150, rfl, hq⟩ := hq
    replace hS : SH M X w [Ent.own 5 (tI .u8) ([6] : List Int) g150] _ := hS.join [] [] rfl rfl hq
    clear hq
    rw [hX] at hS
    exact ⟨gL [g150], fun _ _ => rfl, hS.sel [0] rfl⟩
   ·intro o ho a w yg124 M Hb hv hO hS0
    obtain rfl := Option.some.inj ho
    have H : Fr 57 ([(53, [], .slice (yg124 15 0).a 1 (yg124 15 0).c), (52, [], .agg ⟨[.int .u8 6, .string ⟨⟨[]⟩⟩, .int .i64 0, .int .u8 0, .int .u8 0, .int .u8 0, .int .u8 0]⟩)] ++ [(1, [], .pointer (some ⟨b6, 0, none⟩)), (3, [], .slice g123.a z81.length g123.c)]) _ := ((Hb).add (hv 14 (by decide) (by decide) 52 rfl)).add (hv 15 (by decide) (by decide) 53 rfl)
    obtain ⟨X, hX⟩ : ∃ X, X = fpl [Ent.own 5 (tI .u8) ([6] : List Int) (yg124 15 0)] := ⟨_, rfl⟩
    have hS : SH M X w [Ent.own 5 (tI .u8) ([6] : List Int) (yg124 15 0)] w := by rw [hX]; exact hS0
    refine Stp.mono (o_evs [] (.agg ⟨[.string ⟨⟨[111, 114, 100, 101, 114]⟩⟩, .bool false, .int .u8 6, .string ⟨⟨[]⟩⟩, .int .i64 0, .int .u8 0, .int .u8 0, .int .u8 0, .int .u8 0, .slice none 0 0, .slice (yg124 15 0).a 1 (yg124 15 0).c, .bool false]⟩) none [] H rfl (by kernel_rfl) (fun q e => by cases e)) ?_
    rintro v w2 ⟨rfl, hq⟩
    replace hS : SH M X w [Ent.own 5 (tI .u8) ([6] : List Int) (yg124 15 0)] _ := hS.below hq.below
    rw [hX] at hS
    exact ⟨gL [], fun _ _ => rfl, hS.sel [0] rfl⟩
   ·intro o ho a w yg124 M Hb hv hO hS0
    obtain rfl := Option.some.inj ho
    have H : Fr 57 ([(54, [], .agg ⟨[.string ⟨⟨[111, 114, 100, 101, 114]⟩⟩, .bool false, .int .u8 6, .string ⟨⟨[]⟩⟩, .int .i64 0, .int .u8 0, .int .u8 0, .int .u8 0, .int .u8 0, .slice none 0 0, .slice (yg124 15 0).a 1 (yg124 15 0).c, .bool false]⟩), (51, [], .agg ⟨[.string ⟨⟨[122, 45, 105, 110, 100, 101, 120]⟩⟩, .bool false, .int .u8 y3.Kind, .string ⟨⟨y3.Word⟩⟩, .int .i64 y3.Num, .int .u8 y3.Color.Red, .int .u8 y3.Color.Green, .int .u8 y3.Color.Blue, .int .u8 y3.Color.Alpha, .slice (yg124 11 0).a 1 (yg124 11 0).c, .slice (yg124 12 0).a 1 (yg124 12 0).c, .bool false]⟩), (47, [], .agg ⟨[.string ⟨⟨[111, 112, 97, 99, 105, 116, 121]⟩⟩, .bool false, .int .u8 5, .string ⟨⟨[]⟩⟩, .int .i64 1000, .int .u8 0, .int .u8 0, .int .u8 0, .int .u8 0, .slice none 0 0, .slice (yg124 8 0).a 1 (yg124 8 0).c, .bool false]⟩), (44, [], .agg ⟨[.string ⟨⟨y139.Name⟩⟩, .bool y139.Inherited, .int .u8 y139.Initial.Kind, .string ⟨⟨y139.Initial.Word⟩⟩, .int .i64 y139.Initial.Num, .int .u8 y139.Initial.Color.Red, .int .u8 y139.Initial.Color.Green, .int .u8 y139.Initial.Color.Blue, .int .u8 y139.Initial.Color.Alpha, .slice (yg124 6 0).a y139.Words.length (yg124 6 0).c, .slice (yg124 6 1).a y139.Kinds.length (yg124 6 1).c, .bool y139.Least]⟩), (43, [], .agg ⟨[.string ⟨⟨y134.Name⟩⟩, .bool y134.Inherited, .int .u8 y134.Initial.Kind, .string ⟨⟨y134.Initial.Word⟩⟩, .int .i64 y134.Initial.Num, .int .u8 y134.Initial.Color.Red, .int .u8 y134.Initial.Color.Green, .int .u8 y134.Initial.Color.Blue, .int .u8 y134.Initial.Color.Alpha, .slice (yg124 5 0).a y134.Words.length (yg124 5 0).c, .slice (yg124 5 1).a y134.Kinds.length (yg124 5 1).c, .bool y134.Least]⟩), (40, [], .agg ⟨[.string ⟨⟨y126.Name⟩⟩, .bool y126.Inherited, .int .u8 y126.Initial.Kind, .string ⟨⟨y126.Initial.Word⟩⟩, .int .i64 y126.Initial.Num, .int .u8 y126.Initial.Color.Red, .int .u8 y126.Initial.Color.Green, .int .u8 y126.Initial.Color.Blue, .int .u8 y126.Initial.Color.Alpha, .slice (yg124 2 0).a y126.Words.length (yg124 2 0).c, .slice (yg124 2 1).a y126.Kinds.length (yg124 2 1).c, .bool y126.Least]⟩)] ++ [(1, [], .pointer (some ⟨b6, 0, none⟩)), (3, [], .slice g123.a z81.length g123.c)]) _ := ((((((Hb).add (hv 2 (by decide) (by decide) 40 rfl)).add (hv 5 (by decide) (by decide) 43 rfl)).add (hv 6 (by decide) (by decide) 44 rfl)).add (hv 9 (by decide) (by decide) 47 rfl)).add (hv 13 (by decide) (by decide) 51 rfl)).add (hv 16 (by decide) (by decide) 54 rfl)
    obtain ⟨X, hX⟩ : ∃ X, X = fpl [Ent.own 9 tS y126.Words (yg124 2 0), Ent.own 5 (tI .u8) y126.Kinds (yg124 2 1), Ent.im (tI .u8) ([] : List Int) (.nil), Ent.own 9 tS y134.Words (yg124 5 0), Ent.own 5 (tI .u8) y134.Kinds (yg124 5 1), Ent.im (tI .u8) ([5] : List Int) (yg124 4 0), Ent.own 9 tS y139.Words (yg124 6 0), Ent.own 5 (tI .u8) y139.Kinds (yg124 6 1), Ent.own 5 (tI .u8) ([5] : List Int) (yg124 8 0), Ent.own 9 tS ([[97, 117, 116, 111]] : List Str) (yg124 11 0), Ent.own 5 (tI .u8) ([6] : List Int) (yg124 12 0), Ent.own 5 (tI .u8) ([6] : List Int) (yg124 15 0)] := ⟨_, rfl⟩
    have hS : SH M X w [Ent.own 9 tS y126.Words (yg124 2 0), Ent.own 5 (tI .u8) y126.Kinds (yg124 2 1), Ent.im (tI .u8) ([] : List Int) (.nil), Ent.own 9 tS y134.Words (yg124 5 0), Ent.own 5 (tI .u8) y134.Kinds (yg124 5 1), Ent.im (tI .u8) ([5] : List Int) (yg124 4 0), Ent.own 9 tS y139.Words (yg124 6 0), Ent.own 5 (tI .u8) y139.Kinds (yg124 6 1), Ent.own 5 (tI .u8) ([5] : List Int) (yg124 8 0), Ent.own 9 tS ([[97, 117, 116, 111]] : List Str) (yg124 11 0), Ent.own 5 (tI .u8) ([6] : List Int) (yg124 12 0), Ent.own 5 (tI .u8) ([6] : List Int) (yg124 15 0)] w := by rw [hX]; exact hS0
    replace hS : SH M X w [Ent.im tS y126.Words (yg124 2 0), Ent.own 5 (tI .u8) y126.Kinds (yg124 2 1), Ent.im (tI .u8) ([] : List Int) (.nil), Ent.own 9 tS y134.Words (yg124 5 0), Ent.own 5 (tI .u8) y134.Kinds (yg124 5 1), Ent.im (tI .u8) ([5] : List Int) (yg124 4 0), Ent.own 9 tS y139.Words (yg124 6 0), Ent.own 5 (tI .u8) y139.Kinds (yg124 6 1), Ent.own 5 (tI .u8) ([5] : List Int) (yg124 8 0), Ent.own 9 tS ([[97, 117, 116, 111]] : List Str) (yg124 11 0), Ent.own 5 (tI .u8) ([6] : List Int) (yg124 12 0), Ent.own 5 (tI .u8) ([6] : List Int) (yg124 15 0)] _ := SH.frz1 (hS.sel [0, 1, 2, 3, 4, 5, 6, 7, 8, 9, 10, 11] rfl)
    replace hS : SH M X w [Ent.im (tI .u8) y126.Kinds (yg124 2 1), Ent.im tS y126.Words (yg124 2 0), Ent.im (tI .u8) ([] : List Int) (.nil), Ent.own 9 tS y134.Words (yg124 5 0), Ent.own 5 (tI .u8) y134.Kinds (yg124 5 1), Ent.im (tI .u8) ([5] : List Int) (yg124 4 0), Ent.own 9 tS y139.Words (yg124 6 0), Ent.own 5 (tI .u8) y139.Kinds (yg124 6 1), Ent.own 5 (tI .u8) ([5] : List Int) (yg124 8 0), Ent.own 9 tS ([[97, 117, 116, 111]] : List Str) (yg124 11 0), Ent.own 5 (tI .u8) ([6] : List Int) (yg124 12 0), Ent.own 5 (tI .u8) ([6] : List Int) (yg124 15 0)] _ := SH.frz1 (hS.sel [1, 0, 2, 3, 4, 5, 6, 7, 8, 9, 10, 11] rfl)
    replace hS : SH M X w [Ent.im tS y134.Words (yg124 5 0), Ent.im (tI .u8) y126.Kinds (yg124 2 1), Ent.im tS y126.Words (yg124 2 0), Ent.im (tI .u8) ([] : List Int) (.nil), Ent.own 5 (tI .u8) y134.Kinds (yg124 5 1), Ent.im (tI .u8) ([5] : List Int) (yg124 4 0), Ent.own 9 tS y139.Words (yg124 6 0), Ent.own 5 (tI .u8) y139.Kinds (yg124 6 1), Ent.own 5 (tI .u8) ([5] : List Int) (yg124 8 0), Ent.own 9 tS ([[97, 117, 116, 111]] : List Str) (yg124 11 0), Ent.own 5 (tI .u8) ([6] : List Int) (yg124 12 0), Ent.own 5 (tI .u8) ([6] : List Int) (yg124 15 0)] _ := SH.frz1 (hS.sel [3, 0, 1, 2, 4, 5, 6, 7, 8, 9, 10, 11] rfl)
    replace hS : SH M X w [Ent.im (tI .u8) y134.Kinds (yg124 5 1), Ent.im tS y134.Words (yg124 5 0), Ent.im (tI .u8) y126.Kinds (yg124 2 1), Ent.im tS y126.Words (yg124 2 0), Ent.im (tI .u8) ([] : List Int) (.nil), Ent.im (tI .u8) ([5] : List Int) (yg124 4 0), Ent.own 9 tS y139.Words (yg124 6 0), Ent.own 5 (tI .u8) y139.Kinds (yg124 6 1), Ent.own 5 (tI .u8) ([5] : List Int) (yg124 8 0), Ent.own 9 tS ([[97, 117, 116, 111]] : List Str) (yg124 11 0), Ent.own 5 (tI .u8) ([6] : List Int) (yg124 12 0), Ent.own 5 (tI .u8) ([6] : List Int) (yg124 15 0)] _ := SH.frz1 (hS.sel [4, 0, 1, 2, 3, 5, 6, 7, 8, 9, 10, 11] rfl)
    replace hS : SH M X w [Ent.im tS y139.Words (yg124 6 0), Ent.im (tI .u8) y134.Kinds (yg124 5 1), Ent.im tS y134.Words (yg124 5 0), Ent.im (tI .u8) y126.Kinds (yg124 2 1), Ent.im tS y126.Words (yg124 2 0), Ent.im (tI .u8) ([] : List Int) (.nil), Ent.im (tI .u8) ([5] : List Int) (yg124 4 0), Ent.own 5 (tI .u8) y139.Kinds (yg124 6 1), Ent.own 5 (tI .u8) ([5] : List Int) (yg124 8 0), Ent.own 9 tS ([[97, 117, 116, 111]] : List Str) (yg124 11 0), Ent.own 5 (tI .u8) ([6] : List Int) (yg124 12 0), Ent.own 5 (tI .u8) ([6] : List Int) (yg124 15 0)] _ := SH.frz1 (hS.sel [6, 0, 1, 2, 3, 4, 5, 7, 8, 9, 10, 11] rfl)
    replace hS : SH M X w [Ent.im (tI .u8) y139.Kinds (yg124 6 1), Ent.im tS y139.Words (yg124 6 0), Ent.im (tI .u8) y134.Kinds (yg124 5 1), Ent.im tS y134.Words (yg124 5 0), Ent.im (tI .u8) y126.Kinds (yg124 2 1), Ent.im tS y126.Words (yg124 2 0), Ent.im (tI .u8) ([] : List Int) (.nil), Ent.im (tI .u8) ([5] : List Int) (yg124 4 0), Ent.own 5 (tI .u8) ([5] : List Int) (yg124 8 0), Ent.own 9 tS ([[97, 117, 116, 111]] : List Str) (yg124 11 0), Ent.own 5 (tI .u8) ([6] : List Int) (yg124 12 0), Ent.own 5 (tI .u8) ([6] : List Int) (yg124 15 0)] _ := SH.frz1 (hS.sel [7, 0, 1, 2, 3, 4, 5, 6, 8, 9, 10, 11] rfl)
    replace hS : SH M X w [Ent.im (tI .u8) ([5] : List Int) (yg124 8 0), Ent.im (tI .u8) y139.Kinds (yg124 6 1), Ent.im tS y139.Words (yg124 6 0), Ent.im (tI .u8) y134.Kinds (yg124 5 1), Ent.im tS y134.Words (yg124 5 0), Ent.im (tI .u8) y126.Kinds (yg124 2 1), Ent.im tS y126.Words (yg124 2 0), Ent.im (tI .u8) ([] : List Int) (.nil), Ent.im (tI .u8) ([5] : List Int) (yg124 4 0), Ent.own 9 tS ([[97, 117, 116, 111]] : List Str) (yg124 11 0), Ent.own 5 (tI .u8) ([6] : List Int) (yg124 12 0), Ent.own 5 (tI .u8) ([6] : List Int) (yg124 15 0)] _ := SH.frz1 (hS.sel [8, 0, 1, 2, 3, 4, 5, 6, 7, 9, 10, 11] rfl)
    replace hS : SH M X w [Ent.im tS ([[97, 117, 116, 111]] : List Str) (yg124 11 0), Ent.im (tI .u8) ([5] : List Int) (yg124 8 0), Ent.im (tI .u8) y139.Kinds (yg124 6 1), Ent.im tS y139.Words (yg124 6 0), Ent.im (tI .u8) y134.Kinds (yg124 5 1), Ent.im tS y134.Words (yg124 5 0), Ent.im (tI .u8) y126.Kinds (yg124 2 1), Ent.im tS y126.Words (yg124 2 0), Ent.im (tI .u8) ([] : List Int) (.nil), Ent.im (tI .u8) ([5] : List Int) (yg124 4 0), Ent.own 5 (tI .u8) ([6] : List Int) (yg124 12 0), Ent.own 5 (tI .u8) ([6] : List Int) (yg124 15 0)] _ := SH.frz1 (hS.sel [9, 0, 1, 2, 3, 4, 5, 6, 7, 8, 10, 11] rfl)
    replace hS : SH M X w [Ent.im (tI .u8) ([6] : List Int) (yg124 12 0), Ent.im tS ([[97, 117, 116, 111]] : List Str) (yg124 11 0), Ent.im (tI .u8) ([5] : List Int) (yg124 8 0), Ent.im (tI .u8) y139.Kinds (yg124 6 1), Ent.im tS y139.Words (yg124 6 0), Ent.im (tI .u8) y134.Kinds (yg124 5 1), Ent.im tS y134.Words (yg124 5 0), Ent.im (tI .u8) y126.Kinds (yg124 2 1), Ent.im tS y126.Words (yg124 2 0), Ent.im (tI .u8) ([] : List Int) (.nil), Ent.im (tI .u8) ([5] : List Int) (yg124 4 0), Ent.own 5 (tI .u8) ([6] : List Int) (yg124 15 0)] _ := SH.frz1 (hS.sel [10, 0, 1, 2, 3, 4, 5, 6, 7, 8, 9, 11] rfl)
    replace hS : SH M X w [Ent.im (tI .u8) ([6] : List Int) (yg124 15 0), Ent.im (tI .u8) ([6] : List Int) (yg124 12 0), Ent.im tS ([[97, 117, 116, 111]] : List Str) (yg124 11 0), Ent.im (tI .u8) ([5] : List Int) (yg124 8 0), Ent.im (tI .u8) y139.Kinds (yg124 6 1), Ent.im tS y139.Words (yg124 6 0), Ent.im (tI .u8) y134.Kinds (yg124 5 1), Ent.im tS y134.Words (yg124 5 0), Ent.im (tI .u8) y126.Kinds (yg124 2 1), Ent.im tS y126.Words (yg124 2 0), Ent.im (tI .u8) ([] : List Int) (.nil), Ent.im (tI .u8) ([5] : List Int) (yg124 4 0)] _ := SH.frz1 (hS.sel [11, 0, 1, 2, 3, 4, 5, 6, 7, 8, 9, 10] rfl)
    have hd := hS.hand [9, 8, 7, 6, 5, 4, 3, 2, 1, 0] [0, 1, 2, 3, 4, 5, 6, 7, 8, 9, 10, 11] rfl rfl
    refine Stp.mono (o_lit (T := tyProp) (E := 68) (zv := .agg ⟨[.string ⟨⟨[]⟩⟩, .bool false, .int .u8 0, .string ⟨⟨[]⟩⟩, .int .i64 0, .int .u8 0, .int .u8 0, .int .u8 0, .int .u8 0, .slice none 0 0, .slice none 0 0, .bool false]⟩) [.string ⟨⟨y126.Name⟩⟩, .bool y126.Inherited, .int .u8 y126.Initial.Kind, .string ⟨⟨y126.Initial.Word⟩⟩, .int .i64 y126.Initial.Num, .int .u8 y126.Initial.Color.Red, .int .u8 y126.Initial.Color.Green, .int .u8 y126.Initial.Color.Blue, .int .u8 y126.Initial.Color.Alpha, .slice (yg124 2 0).a y126.Words.length (yg124 2 0).c, .slice (yg124 2 1).a y126.Kinds.length (yg124 2 1).c, .bool y126.Least, .string ⟨⟨y134.Name⟩⟩, .bool y134.Inherited, .int .u8 y134.Initial.Kind, .string ⟨⟨y134.Initial.Word⟩⟩, .int .i64 y134.Initial.Num, .int .u8 y134.Initial.Color.Red, .int .u8 y134.Initial.Color.Green, .int .u8 y134.Initial.Color.Blue, .int .u8 y134.Initial.Color.Alpha, .slice (yg124 5 0).a y134.Words.length (yg124 5 0).c, .slice (yg124 5 1).a y134.Kinds.length (yg124 5 1).c, .bool y134.Least, .string ⟨⟨y139.Name⟩⟩, .bool y139.Inherited, .int .u8 y139.Initial.Kind, .string ⟨⟨y139.Initial.Word⟩⟩, .int .i64 y139.Initial.Num, .int .u8 y139.Initial.Color.Red, .int .u8 y139.Initial.Color.Green, .int .u8 y139.Initial.Color.Blue, .int .u8 y139.Initial.Color.Alpha, .slice (yg124 6 0).a y139.Words.length (yg124 6 0).c, .slice (yg124 6 1).a y139.Kinds.length (yg124 6 1).c, .bool y139.Least, .string ⟨⟨[111, 112, 97, 99, 105, 116, 121]⟩⟩, .bool false, .int .u8 5, .string ⟨⟨[]⟩⟩, .int .i64 1000, .int .u8 0, .int .u8 0, .int .u8 0, .int .u8 0, .slice none 0 0, .slice (yg124 8 0).a 1 (yg124 8 0).c, .bool false, .string ⟨⟨[122, 45, 105, 110, 100, 101, 120]⟩⟩, .bool false, .int .u8 y3.Kind, .string ⟨⟨y3.Word⟩⟩, .int .i64 y3.Num, .int .u8 y3.Color.Red, .int .u8 y3.Color.Green, .int .u8 y3.Color.Blue, .int .u8 y3.Color.Alpha, .slice (yg124 11 0).a 1 (yg124 11 0).c, .slice (yg124 12 0).a 1 (yg124 12 0).c, .bool false, .string ⟨⟨[111, 114, 100, 101, 114]⟩⟩, .bool false, .int .u8 6, .string ⟨⟨[]⟩⟩, .int .i64 0, .int .u8 0, .int .u8 0, .int .u8 0, .int .u8 0, .slice none 0 0, .slice (yg124 15 0).a 1 (yg124 15 0).c, .bool false] ([y126, y134, y139, (TProp.mk [111, 112, 97, 99, 105, 116, 121] false (TVal.mk 5 [] 1000 (TColor.mk 0 0 0 0)) [] ([5] : List Int) false), (TProp.mk [122, 45, 105, 110, 100, 101, 120] false y3 ([[97, 117, 116, 111]] : List Str) ([6] : List Int) false), (TProp.mk [111, 114, 100, 101, 114] false (TVal.mk 6 [] 0 (TColor.mk 0 0 0 0)) [] ([6] : List Int) false)] : List TProp) [gL [(yg124 2 0), (yg124 2 1)], gL [(yg124 5 0), (yg124 5 1)], gL [(yg124 6 0), (yg124 6 1)], gL [Gh.nil, (yg124 8 0)], gL [(yg124 11 0), (yg124 12 0)], gL [Gh.nil, (yg124 15 0)]] _ H hd rfl (by kernel_rfl) (by kernel_rfl) (by kernel_rfl) (by kernel_rfl) (by kernel_rfl) (by kernel_rfl) (by kernel_rfl) rfl (InnL.cons (tyProp_mk (hd.im 0 rfl) (hd.im 1 rfl)) (InnL.cons (tyProp_mk (hd.im 2 rfl) (hd.im 3 rfl)) (InnL.cons (tyProp_mk (hd.im 4 rfl) (hd.im 5 rfl)) (InnL.cons (tyProp_mk SlG.nil (hd.im 6 rfl)) (InnL.cons (tyProp_mk (hd.im 7 rfl) (hd.im 8 rfl)) (InnL.cons (tyProp_mk SlG.nil (hd.im 9 rfl)) InnL.nil))))))) ?_
    rintro v w2 hq
    obtain ⟨g152, rfl, hq⟩ := hq
    replace hS : SH M X w [Ent.own 68 tyProp ([y126, y134, y139, (TProp.mk [111, 112, 97, 99, 105, 116, 121] false (TVal.mk 5 [] 1000 (TColor.mk 0 0 0 0)) [] ([5] : List Int) false), (TProp.mk [122, 45, 105, 110, 100, 101, 120] false y3 ([[97, 117, 116, 111]] : List Str) ([6] : List Int) false), (TProp.mk [111, 114, 100, 101, 114] false (TVal.mk 6 [] 0 (TColor.mk 0 0 0 0)) [] ([6] : List Int) false)] : List TProp) g152, Ent.im (tI .u8) ([6] : List Int) (yg124 15 0), Ent.im (tI .u8) ([6] : List Int) (yg124 12 0), Ent.im tS ([[97, 117, 116, 111]] : List Str) (yg124 11 0), Ent.im (tI .u8) ([5] : List Int) (yg124 8 0), Ent.im (tI .u8) y139.Kinds (yg124 6 1), Ent.im tS y139.Words (yg124 6 0), Ent.im (tI .u8) y134.Kinds (yg124 5 1), Ent.im tS y134.Words (yg124 5 0), Ent.im (tI .u8) y126.Kinds (yg124 2 1), Ent.im tS y126.Words (yg124 2 0), Ent.im (tI .u8) ([] : List Int) (.nil), Ent.im (tI .u8) ([5] : List Int) (yg124 4 0)] _ := hS.join [9, 8, 7, 6, 5, 4, 3, 2, 1, 0] [0, 1, 2, 3, 4, 5, 6, 7, 8, 9, 10, 11] rfl rfl hq
    clear hq
    rw [hX] at hS
    exact ⟨gL [g152], fun _ _ => rfl, hS.sel [0, 1, 2, 3, 4, 5, 6, 7, 8, 9, 10, 11, 12] rfl⟩
   ·intro o ho a w yg124 M Hb hv hO hS0
    obtain rfl := Option.some.inj ho
    have H : Fr 57 ([(55, [], .slice (yg124 17 0).a 6 (yg124 17 0).c), (38, [], .slice g123.a z81.length g123.c)] ++ [(1, [], .pointer (some ⟨b6, 0, none⟩)), (3, [], .slice g123.a z81.length g123.c)]) _ := ((Hb).add (hv 0 (by decide) (by decide) 38 rfl)).add (hv 17 (by decide) (by decide) 55 rfl)
    obtain ⟨X, hX⟩ : ∃ X, X = fpl [Ent.own 68 tyProp ([y126, y134, y139, (TProp.mk [111, 112, 97, 99, 105, 116, 121] false (TVal.mk 5 [] 1000 (TColor.mk 0 0 0 0)) [] ([5] : List Int) false), (TProp.mk [122, 45, 105, 110, 100, 101, 120] false y3 ([[97, 117, 116, 111]] : List Str) ([6] : List Int) false), (TProp.mk [111, 114, 100, 101, 114] false (TVal.mk 6 [] 0 (TColor.mk 0 0 0 0)) [] ([6] : List Int) false)] : List TProp) (yg124 17 0), Ent.im (tI .u8) ([6] : List Int) (yg124 15 0), Ent.im (tI .u8) ([6] : List Int) (yg124 12 0), Ent.im tS ([[97, 117, 116, 111]] : List Str) (yg124 11 0), Ent.im (tI .u8) ([5] : List Int) (yg124 8 0), Ent.im (tI .u8) y139.Kinds (yg124 6 1), Ent.im tS y139.Words (yg124 6 0), Ent.im (tI .u8) y134.Kinds (yg124 5 1), Ent.im tS y134.Words (yg124 5 0), Ent.im (tI .u8) y126.Kinds (yg124 2 1), Ent.im tS y126.Words (yg124 2 0), Ent.im (tI .u8) ([] : List Int) (.nil), Ent.im (tI .u8) ([5] : List Int) (yg124 4 0), Ent.own 68 tyProp z81 g123] := ⟨_, rfl⟩
    have hS : SH M X w [Ent.own 68 tyProp ([y126, y134, y139, (TProp.mk [111, 112, 97, 99, 105, 116, 121] false (TVal.mk 5 [] 1000 (TColor.mk 0 0 0 0)) [] ([5] : List Int) false), (TProp.mk [122, 45, 105, 110, 100, 101, 120] false y3 ([[97, 117, 116, 111]] : List Str) ([6] : List Int) false), (TProp.mk [111, 114, 100, 101, 114] false (TVal.mk 6 [] 0 (TColor.mk 0 0 0 0)) [] ([6] : List Int) false)] : List TProp) (yg124 17 0), Ent.im (tI .u8) ([6] : List Int) (yg124 15 0), Ent.im (tI .u8) ([6] : List Int) (yg124 12 0), Ent.im tS ([[97, 117, 116, 111]] : List Str) (yg124 11 0), Ent.im (tI .u8) ([5] : List Int) (yg124 8 0), Ent.im (tI .u8) y139.Kinds (yg124 6 1), Ent.im tS y139.Words (yg124 6 0), Ent.im (tI .u8) y134.Kinds (yg124 5 1), Ent.im tS y134.Words (yg124 5 0), Ent.im (tI .u8) y126.Kinds (yg124 2 1), Ent.im tS y126.Words (yg124 2 0), Ent.im (tI .u8) ([] : List Int) (.nil), Ent.im (tI .u8) ([5] : List Int) (yg124 4 0), Ent.own 68 tyProp z81 g123] w := by rw [hX]; exact hS0
    have hd := hS.hand [13, 0] [1, 2, 3, 4, 5, 6, 7, 8, 9, 10, 11, 12] rfl rfl
    refine Stp.mono (o_app2 (T := tyProp) (zv := .agg ⟨[.string ⟨⟨[]⟩⟩, .bool false, .int .u8 0, .string ⟨⟨[]⟩⟩, .int .i64 0, .int .u8 0, .int .u8 0, .int .u8 0, .int .u8 0, .slice none 0 0, .slice none 0 0, .bool false]⟩) (g1 := g123) (g2 := (yg124 17 0)) (l1 := z81) (l2 := ([y126, y134, y139, (TProp.mk [111, 112, 97, 99, 105, 116, 121] false (TVal.mk 5 [] 1000 (TColor.mk 0 0 0 0)) [] ([5] : List Int) false), (TProp.mk [122, 45, 105, 110, 100, 101, 120] false y3 ([[97, 117, 116, 111]] : List Str) ([6] : List Int) false), (TProp.mk [111, 114, 100, 101, 114] false (TVal.mk 6 [] 0 (TColor.mk 0 0 0 0)) [] ([6] : List Int) false)] : List TProp)) q155 hq155.symm H hd rfl rfl rfl rfl rfl rfl rfl (by kernel_rfl) (by kernel_rfl) rfl rfl ho154) ?_
    rintro v w2 hq
    obtain ⟨g156, rfl, hq⟩ := hq
    replace hS : SH M X w [Ent.own 68 tyProp q155 g156, Ent.own 68 tyProp ([y126, y134, y139, (TProp.mk [111, 112, 97, 99, 105, 116, 121] false (TVal.mk 5 [] 1000 (TColor.mk 0 0 0 0)) [] ([5] : List Int) false), (TProp.mk [122, 45, 105, 110, 100, 101, 120] false y3 ([[97, 117, 116, 111]] : List Str) ([6] : List Int) false), (TProp.mk [111, 114, 100, 101, 114] false (TVal.mk 6 [] 0 (TColor.mk 0 0 0 0)) [] ([6] : List Int) false)] : List TProp) (yg124 17 0), Ent.im (tI .u8) ([6] : List Int) (yg124 15 0), Ent.im (tI .u8) ([6] : List Int) (yg124 12 0), Ent.im tS ([[97, 117, 116, 111]] : List Str) (yg124 11 0), Ent.im (tI .u8) ([5] : List Int) (yg124 8 0), Ent.im (tI .u8) y139.Kinds (yg124 6 1), Ent.im tS y139.Words (yg124 6 0), Ent.im (tI .u8) y134.Kinds (yg124 5 1), Ent.im tS y134.Words (yg124 5 0), Ent.im (tI .u8) y126.Kinds (yg124 2 1), Ent.im tS y126.Words (yg124 2 0), Ent.im (tI .u8) ([] : List Int) (.nil), Ent.im (tI .u8) ([5] : List Int) (yg124 4 0)] _ := hS.join [13, 0] [1, 2, 3, 4, 5, 6, 7, 8, 9, 10, 11, 12] rfl rfl hq
    clear hq
    rw [hX] at hS
    exact ⟨gL [g156], fun _ _ => rfl, hS.sel [0, 1, 2, 3, 4, 5, 6, 7, 8, 9, 10, 11, 12, 13] rfl⟩
   ·intro o ho a w yg124 M Hb hv hO hS0
    obtain rfl := Option.some.inj ho
    have H : Fr 57 ([(56, [], .slice (yg124 18 0).a q155.length (yg124 18 0).c)] ++ [(1, [], .pointer (some ⟨b6, 0, none⟩)), (3, [], .slice g123.a z81.length g123.c)]) _ := (Hb).add (hv 18 (by decide) (by decide) 56 rfl)
    obtain ⟨X, hX⟩ : ∃ X, X = fpl [Ent.own 68 tyProp q155 (yg124 18 0)] := ⟨_, rfl⟩
    have hS : SH M X w [Ent.own 68 tyProp q155 (yg124 18 0)] w := by rw [hX]; exact hS0
    refine Stp.mono (o_evs [] (.slice (yg124 18 0).a q155.length (yg124 18 0).c) none [] H rfl (by kernel_rfl) (fun q e => by cases e)) ?_
    rintro v w2 ⟨rfl, hq⟩
    replace hS : SH M X w [Ent.own 68 tyProp q155 (yg124 18 0)] _ := hS.below hq.below
    rw [hX] at hS
    exact ⟨gL [], fun _ _ => rfl, hS.sel [0] rfl⟩
  have H159 : Fr 57 [(0, [], .slice (yg124 18 0).a q155.length (yg124 18 0).c)] _ := (FrG.add (FrG.keep (ks := []) H158 (by kernel_rfl)) (hv 19 0 rfl))
  replace hS : SH M X w [Ent.own 68 tyProp ([y126, y134, y139, (TProp.mk [111, 112, 97, 99, 105, 116, 121] false (TVal.mk 5 [] 1000 (TColor.mk 0 0 0 0)) [] ([5] : List Int) false), (TProp.mk [122, 45, 105, 110, 100, 101, 120] false y3 ([[97, 117, 116, 111]] : List Str) ([6] : List Int) false), (TProp.mk [111, 114, 100, 101, 114] false (TVal.mk 6 [] 0 (TColor.mk 0 0 0 0)) [] ([6] : List Int) false)] : List TProp) (yg124 17 0), Ent.im (tI .u8) ([6] : List Int) (yg124 15 0), Ent.im (tI .u8) ([6] : List Int) (yg124 12 0), Ent.im tS ([[97, 117, 116, 111]] : List Str) (yg124 11 0), Ent.im (tI .u8) ([5] : List Int) (yg124 8 0), Ent.im (tI .u8) y139.Kinds (yg124 6 1), Ent.im tS y139.Words (yg124 6 0), Ent.im (tI .u8) y134.Kinds (yg124 5 1), Ent.im tS y134.Words (yg124 5 0), Ent.im (tI .u8) y126.Kinds (yg124 2 1), Ent.im tS y126.Words (yg124 2 0), Ent.im (tI .u8) ([] : List Int) (.nil), Ent.im (tI .u8) ([5] : List Int) (yg124 4 0), Ent.own 68 tyProp q155 (yg124 18 0), Ent.blk b6 [.int .u8 y3.Kind, .string ⟨⟨y3.Word⟩⟩, .int .i64 y3.Num, .int .u8 y3.Color.Red, .int .u8 y3.Color.Green, .int .u8 y3.Color.Blue, .int .u8 y3.Color.Alpha], gE0] _ := hS
  clear hv H158
  generalize yg124 18 0 = g160 at H159 hS
  generalize yg124 17 0 = g161 at H159 hS
  generalize yg124 15 0 = g162 at H159 hS
  generalize yg124 12 0 = g163 at H159 hS
  generalize yg124 11 0 = g164 at H159 hS
  generalize yg124 8 0 = g165 at H159 hS
  generalize yg124 6 1 = g166 at H159 hS
  generalize yg124 6 0 = g167 at H159 hS
  generalize yg124 5 1 = g168 at H159 hS
  generalize yg124 5 0 = g169 at H159 hS
  generalize yg124 2 1 = g170 at H159 hS
  generalize yg124 2 0 = g171 at H159 hS
  generalize yg124 4 0 = g172 at H159 hS
  replace hS : SH M X w [Ent.own 68 tyProp q155 g160, gE0] _ := hS.sel [13, 15] rfl
  refine w_ret ?_
  obtain rfl := someE hm
  exact retR1 H159 rfl rfl ⟨_, rfl, g160, rfl, (hS.sel [0] rfl)⟩
theorem props_Table_ok  (m : Nat)  (r : List TProp) (hm : props_Table m = some r) (M : Av) (w : World) (hS : S0 M [gE0] w) : DoesX Tryd.prog 26 ⟨[]⟩ w (fun v w' => ∃ (g901 : Gh), v = .slice g901.a r.length g901.c ∧ SH M (fpl [gE0]) w [Ent.own 68 tyProp r g901] w') := ⟨Tryd.call26 _, props_Table_w M m    r hm w hS⟩

def props_Find_1 (p : TProp) (u0 : Str) : Bool :=
  p.Name == u0
theorem props_Find_1_w {g_p_0 : Gh} {g_p_1 : Gh} {b_u0 : Nat} (M : Av) (p : TProp) (u0 : Str) (r : Bool) (hm : props_Find_1 p u0 = r) (w : World) (hS : S0 M [Ent.im tS p.Words g_p_0, Ent.im (tI .u8) p.Kinds g_p_1, Ent.ro b_u0 [.string ⟨⟨u0⟩⟩]] w) : Calls Tryd.prog 42 ⟨[.agg ⟨[.string ⟨⟨p.Name⟩⟩, .bool p.Inherited, .int .u8 p.Initial.Kind, .string ⟨⟨p.Initial.Word⟩⟩, .int .i64 p.Initial.Num, .int .u8 p.Initial.Color.Red, .int .u8 p.Initial.Color.Green, .int .u8 p.Initial.Color.Blue, .int .u8 p.Initial.Color.Alpha, .slice g_p_0.a p.Words.length g_p_0.c, .slice g_p_1.a p.Kinds.length g_p_1.c, .bool p.Least]⟩, .pointer (some ⟨b_u0, 0, none⟩)]⟩ w (fun e w' => ∃ v, e = .returned v ∧ v = .bool r ∧ SH M (fpl [Ent.im tS p.Words g_p_0, Ent.im (tI .u8) p.Kinds g_p_1, Ent.ro b_u0 [.string ⟨⟨u0⟩⟩]]) w [] w') := by
 rw [props_Find_1] at hm
 have hS0 : SH M (fpl [Ent.im tS p.Words g_p_0, Ent.im (tI .u8) p.Kinds g_p_1, Ent.ro b_u0 [.string ⟨⟨u0⟩⟩]]) w [Ent.im tS p.Words g_p_0, Ent.im (tI .u8) p.Kinds g_p_1, Ent.ro b_u0 [.string ⟨⟨u0⟩⟩]] w := hS
 generalize hX : fpl [Ent.im tS p.Words g_p_0, Ent.im (tI .u8) p.Kinds g_p_1, Ent.ro b_u0 [.string ⟨⟨u0⟩⟩]] = X at hS0 ⊢
 clear hS hX
 have hS := hS0
 clear hS0
 refine calls_entryP Tryd.func42 rfl Tryd.ntmps42 rfl fun _ H => ?_
 refine w_seq ?_
 refine wl_start ?_
 have hd := hS.hand [] [0, 1, 2] rfl rfl
 refine m_stp [2, 1] [(1, [], .pointer (some ⟨b_u0, 0, none⟩))] H rfl rfl rfl rfl (o_box [.string ⟨⟨p.Name⟩⟩, .bool p.Inherited, .int .u8 p.Initial.Kind, .string ⟨⟨p.Initial.Word⟩⟩, .int .i64 p.Initial.Num, .int .u8 p.Initial.Color.Red, .int .u8 p.Initial.Color.Green, .int .u8 p.Initial.Color.Blue, .int .u8 p.Initial.Color.Alpha, .slice g_p_0.a p.Words.length g_p_0.c, .slice g_p_1.a p.Kinds.length g_p_1.c, .bool p.Least] H hd rfl rfl) (fun _ => rfl) fun _ wd2 v H3 hq => ?_
 clear H hd
 obtain ⟨b1, rfl, hq⟩ := hq
 replace hS : SH M X w [Ent.blk b1 [.string ⟨⟨p.Name⟩⟩, .bool p.Inherited, .int .u8 p.Initial.Kind, .string ⟨⟨p.Initial.Word⟩⟩, .int .i64 p.Initial.Num, .int .u8 p.Initial.Color.Red, .int .u8 p.Initial.Color.Green, .int .u8 p.Initial.Color.Blue, .int .u8 p.Initial.Color.Alpha, .slice g_p_0.a p.Words.length g_p_0.c, .slice g_p_1.a p.Kinds.length g_p_1.c, .bool p.Least], Ent.im tS p.Words g_p_0, Ent.im (tI .u8) p.Kinds g_p_1, Ent.ro b_u0 [.string ⟨⟨u0⟩⟩]] _ := hS.join [] [0, 1, 2] rfl rfl hq
 clear hq
 refine wl_batch 1 2 [] [1, 2] [(1, [], .pointer (some ⟨b_u0, 0, none⟩)), (2, [], .pointer (some ⟨b1, 0, none⟩))] [] H3 (by decide) (by kernel_rfl) trivial fun _ wd4 H5 hb => ?_
 clear H3
 replace hS := hS.below hb
 clear hb
 refine wl_end rfl ?_
 refine s_reg [(.string ⟨⟨p.Name⟩⟩), (.string ⟨⟨u0⟩⟩)] [3] [(3, [], .bool (p.Name == u0))] [fun wz => V.at1 ⟨b1, 0, none⟩ (.string ⟨⟨p.Name⟩⟩) wz, fun wz => V.at1 ⟨b_u0, 0, none⟩ (.string ⟨⟨u0⟩⟩) wz] H5 (by kernel_rfl) ⟨((hS.bk 0 rfl).at1 rfl), ((hS.ro 3 rfl).at1 rfl), trivial⟩ fun _ wd6 H7 hb => ?_
 clear H5
 replace hS := hS.below hb
 clear hb
 replace hS : SH M X w [] _ := hS.sel [] rfl
 refine w_ret ?_
 subst hm
 exact retR1 H7 rfl rfl ⟨_, rfl, rfl, (hS.sel [] rfl)⟩
theorem props_Find_1_ok {g_p_0 : Gh} {g_p_1 : Gh} {b_u0 : Nat} (p : TProp) (u0 : Str) (w : World) (hL : S0 F0 [Ent.im tS p.Words g_p_0, Ent.im (tI .u8) p.Kinds g_p_1, Ent.ro b_u0 [.string ⟨⟨u0⟩⟩]] w ∧ fpl [Ent.im tS p.Words g_p_0, Ent.im (tI .u8) p.Kinds g_p_1, Ent.ro b_u0 [.string ⟨⟨u0⟩⟩]] = []) : RetB Tryd.prog 42 ⟨[.agg ⟨[.string ⟨⟨p.Name⟩⟩, .bool p.Inherited, .int .u8 p.Initial.Kind, .string ⟨⟨p.Initial.Word⟩⟩, .int .i64 p.Initial.Num, .int .u8 p.Initial.Color.Red, .int .u8 p.Initial.Color.Green, .int .u8 p.Initial.Color.Blue, .int .u8 p.Initial.Color.Alpha, .slice g_p_0.a p.Words.length g_p_0.c, .slice g_p_1.a p.Kinds.length g_p_1.c, .bool p.Least]⟩, .pointer (some ⟨b_u0, 0, none⟩)]⟩ (.bool (props_Find_1 p u0)) w := retB_of hL (Tryd.call42 _) (fun w' h => props_Find_1_w F0   p u0 _ rfl w' h)

def slices_IndexFunc_api_Prop_api_Prop_L1 (m : Nat) (s : List TProp) (f_c0 : Str) : Nat → Int → Option (Sum (Int) (Unit))
  | 0, _ => none
  | kk + 1, v6 =>
    cond (decide (v6 < (ln s))) (
    chk (0 ≤ v6 ∧ v6 < ln s) <|
    cond (props_Find_1 (gi s v6) f_c0) (
    some (.inl v6)) (
    slices_IndexFunc_api_Prop_api_Prop_L1 m s f_c0 kk (w64 (v6 + 1)))) (
    some (.inr ()))
def slices_IndexFunc_api_Prop_api_Prop (m : Nat) (s : List TProp) (f_c0 : Str) : Option (Int) :=
  Option.bind (
  slices_IndexFunc_api_Prop_api_Prop_L1 m s f_c0 m 0) fun (z3 : Sum (Int) (Unit)) => sumK z3 fun s_z3 =>
  some (-1)
end Go.Proofs.YtehlikdeobajcaaDoor
