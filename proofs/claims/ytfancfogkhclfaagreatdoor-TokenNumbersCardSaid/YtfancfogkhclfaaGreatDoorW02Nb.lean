/-
  What the Go functions compute, as Lean functions, and that a call returns just that. Printed by a program.
-/
import Derived.Test.YtfancfogkhclfaaGreatDoorRows
import Derived.Test.YtfancfogkhclfaaGreatDoorCL
import Derived.Test.YtfancfogkhclfaaGreatDoorX
import Derived.Test.YtfancfogkhclfaaGreatDoorM
import Derived.Test.YtfancfogkhclfaaGreatDoorW02Na
set_option linter.unusedVariables false
set_option maxRecDepth 20000
set_option maxHeartbeats 4000000
namespace Go.Proofs.YtfancfogkhclfaaGreatDoor
open Go.V Go.RowKit

theorem token_read_2_w {b_tell_c0 : Nat} {g_tell_c0 : Gh} (M : Av) (m : Nat) (s : Str) (tell_c0 : List TA2_int) (r : Int × (List TA2_int)) (hm : token_read_2 m s tell_c0 = some r) (w : World) (hS : S0 M [eB b_tell_c0 [vL g_tell_c0 tell_c0], eO 39 tyA2_int tell_c0 g_tell_c0, Ent.gint 0] w) : Calls Tryz.prog 24 ⟨[vS s, .func (.func 28) ⟨[]⟩ ⟨[vP b_tell_c0]⟩]⟩ w (fun e w' => ∃ v, e = .returned v ∧ ∃ (g901 : Gh), v = vI r.1 ∧ SH M (fpl [eB b_tell_c0 [vL g_tell_c0 tell_c0], eO 39 tyA2_int tell_c0 g_tell_c0, Ent.gint 0]) w [eB b_tell_c0 [.slice g901.a r.2.length g901.c], eO 39 tyA2_int r.2 g901] w') := by
 rw [token_read_2] at hm
 have hS0 : SH M (fpl [eB b_tell_c0 [vL g_tell_c0 tell_c0], eO 39 tyA2_int tell_c0 g_tell_c0, Ent.gint 0]) w [eB b_tell_c0 [vL g_tell_c0 tell_c0], eO 39 tyA2_int tell_c0 g_tell_c0, Ent.gint 0] w := hS
 generalize hX : fpl [eB b_tell_c0 [vL g_tell_c0 tell_c0], eO 39 tyA2_int tell_c0 g_tell_c0, Ent.gint 0] = X at hS0 ⊢
 clear hS hX
 have hS := hS0
 clear hS0
 refine calls_entryP Tryz.func24 rfl Tryz.ntmps24 rfl fun _ H => ?_
 refine s_reg [] [0, 1] [(0, [], vS s), (1, [], .func (.func 28) ⟨[]⟩ ⟨[vP b_tell_c0]⟩)] [] H (by kernel_rfl) trivial fun _ wd1 H2 hb => ?_
 clear H
 replace hS := hS.below hb
 clear hb
 obtain ⟨y3, hy3, hm⟩ := letE hm
 refine s_reg [(.tuple ⟨[.string ⟨⟨y3.1⟩⟩, vI y3.2]⟩)] [0, 1, 5] [(0, [], .string ⟨⟨y3.1⟩⟩), (1, [], .func (.func 28) ⟨[]⟩ ⟨[vP b_tell_c0]⟩), (5, [], vI y3.2)] [fun wz => RetB Tryz.prog 16 ⟨[vS s]⟩ (.tuple ⟨[.string ⟨⟨y3.1⟩⟩, vI y3.2]⟩) wz] H2 (by subst hy3; kernel_rfl) ⟨((by rw [hy3]; exact (cleanF_ok _).b)), trivial⟩ fun _ wd4 H5 hb => ?_
 clear H2
 replace hS := hS.below hb
 clear hb
 refine w_seq ?_
 refine s_reg [] [0, 1, 5, 16] [(0, [], .string ⟨⟨y3.1⟩⟩), (1, [], .func (.func 28) ⟨[]⟩ ⟨[vP b_tell_c0]⟩), (5, [], vI y3.2), (16, [], .bool (y3.2 != 0))] [] H5 (by kernel_rfl) trivial fun _ wd6 H7 hb => ?_
 clear H5
 replace hS := hS.below hb
 clear hb
 refine w_if H7 rfl (fun hc => ?c69) (fun hc => ?_)
 case c69 =>
  replace hm := bT hc hm
  refine s_reg [] [4] [(4, [], vI y3.2)] [] H7 (by kernel_rfl) trivial fun _ wd8 H9 hb => ?_
  clear H7
  replace hS := hS.below hb
  clear hb
  refine w_ret ?_
  obtain rfl := someE hm
  exact retR1 H9 rfl rfl ⟨_, rfl, g_tell_c0, rfl, (hS.sel [0, 1] rfl)⟩
 replace hm := bF hc hm
 refine w_skip ?_
 refine w_seq ?_
 refine wl_start ?_
 refine wl_batch 0 2 [] [0, 1, 19] [(0, [], .string ⟨⟨y3.1⟩⟩), (1, [], .func (.func 28) ⟨[]⟩ ⟨[vP b_tell_c0]⟩), (19, [], .agg ⟨[.string ⟨⟨y3.1⟩⟩, vI 0]⟩)] [] H7 (by decide) (by kernel_rfl) trivial fun _ wd10 H11 hb => ?_
 clear H7
 replace hS := hS.below hb
 clear hb
 have hd := hS.hand [] [0, 1, 2] rfl rfl
 refine m_stp [20, 0, 1] [(0, [], .string ⟨⟨y3.1⟩⟩), (1, [], .func (.func 28) ⟨[]⟩ ⟨[vP b_tell_c0]⟩)] H11 rfl rfl rfl rfl (o_box [.string ⟨⟨y3.1⟩⟩, vI 0] H11 hd rfl rfl) (fun _ => rfl) fun _ wd13 v H14 hq => ?_
 clear H11 hd
 obtain ⟨b12, rfl, hq⟩ := hq
 replace hS : SH M X w [eB b12 [.string ⟨⟨y3.1⟩⟩, vI 0], eB b_tell_c0 [vL g_tell_c0 tell_c0], eO 39 tyA2_int tell_c0 g_tell_c0, Ent.gint 0] _ := hS.join [] [0, 1, 2] rfl rfl hq
 clear hq
 refine wl_batch 3 4 [] [0, 1, 6] [(0, [], .string ⟨⟨y3.1⟩⟩), (1, [], .func (.func 28) ⟨[]⟩ ⟨[vP b_tell_c0]⟩), (6, [], vP b12)] [] H14 (by decide) (by kernel_rfl) trivial fun _ wd15 H16 hb => ?_
 clear H14
 replace hS := hS.below hb
 clear hb
 refine wl_end rfl ?_
 refine w_seq ?_
 refine wl_start ?_
 refine wl_batch 0 1 [] [0, 1, 6, 21] [(0, [], .string ⟨⟨y3.1⟩⟩), (1, [], .func (.func 28) ⟨[]⟩ ⟨[vP b_tell_c0]⟩), (6, [], vP b12), (21, [], vP b12)] [] H16 (by decide) (by kernel_rfl) trivial fun _ wd17 H18 hb => ?_
 clear H16
 replace hS := hS.below hb
 clear hb
 obtain ⟨y19, hy19, hm⟩ := bindE hm
 have hd := hS.hand [0, 3] [1, 2, 3] rfl rfl
 refine m_stp [22, 0, 1, 6] [(0, [], .string ⟨⟨y3.1⟩⟩), (1, [], .func (.func 28) ⟨[]⟩ ⟨[vP b_tell_c0]⟩), (6, [], vP b12)] H18 rfl rfl rfl rfl (o_callx H18 rfl rfl (token_scanner_comments_ok (b_c := b12) m _ _ _ hy19 _ _ hd)) (fun _ => rfl) fun _ wd20 v H21 hq => ?_
 clear H18 hd
 obtain ⟨rfl, hq⟩ := hq
 replace hS : SH M X w [eB b12 [.string ⟨⟨y3.1⟩⟩, vI y19], eB b_tell_c0 [vL g_tell_c0 tell_c0], eO 39 tyA2_int tell_c0 g_tell_c0, Ent.gint 0] _ := hS.join [0, 3] [1, 2, 3] rfl rfl hq
 clear hq
 refine wl_end rfl ?_
 refine s_reg [] [0, 1, 6, 7] [(0, [], .string ⟨⟨y3.1⟩⟩), (1, [], .func (.func 28) ⟨[]⟩ ⟨[vP b_tell_c0]⟩), (6, [], vP b12), (7, [], vI 0)] [] H21 (by kernel_rfl) trivial fun _ wd22 H23 hb => ?_
 clear H21
 replace hS := hS.below hb
 clear hb
 obtain ⟨z24, hz, hm_z24⟩ := bindE hm
 refine w_cut (fun a' w' => ∃ s_z24 : Int × (List TA2_int), z24 = Sum.inr s_z24 ∧ ∃ (g65 : Gh), Fr 50 [] a' ∧ SH M X w [eB b12 [.string ⟨⟨y3.1⟩⟩, vI s_z24.1], eB b_tell_c0 [.slice g65.a s_z24.2.length g65.c], eO 39 tyA2_int s_z24.2 g65, Ent.gint 0] w') ?_ ?_
 ·replace hm := hz
  refine w_block ?_
  refine w_loop (fun kk a' w' => ∃ (v25 : Int) (v26 : Int) (v27 : List TA2_int) (g28 : Gh), token_read_2_L1 m y3 kk v25 v26 v27 = some _ ∧ Fr 50 [(0, [], .string ⟨⟨y3.1⟩⟩), (1, [], .func (.func 28) ⟨[]⟩ ⟨[vP b_tell_c0]⟩), (6, [], vP b12), (7, [], vI v25)] a' ∧ SH M X w [eB b12 [.string ⟨⟨y3.1⟩⟩, vI v26], eB b_tell_c0 [vL g28 v27], eO 39 tyA2_int v27 g28, Ent.gint 0] w') ⟨_, 0, y19, tell_c0, g_tell_c0, hm, FrG.keep (ks := [0, 1, 6, 7]) H23 (by kernel_rfl), hS⟩ ?_
  clear hm H23 hS
  rintro kk _ wd64 ⟨v25, v26, v27, g28, hm, H, hS⟩
  cases kk with
  | zero => exact noneE hm
  | succ kk =>
   rw [token_read_2_L1] at hm
   refine w_seq ?_
   refine s_reg [(vI v26)] [0, 1, 6, 7, 29] [(0, [], .string ⟨⟨y3.1⟩⟩), (1, [], .func (.func 28) ⟨[]⟩ ⟨[vP b_tell_c0]⟩), (6, [], vP b12), (7, [], vI v25), (29, [], .bool (decide (v26 < (ln y3.1))))] [fun wz => V.at1 ⟨b12, 1, none⟩ (vI v26) wz] H (by kernel_rfl) ⟨((hS.bk 0 rfl).at1 rfl), trivial⟩ fun _ wd29 H30 hb => ?_
   clear H
   replace hS := hS.below hb
   clear hb
   refine w_if H30 rfl (fun hc => ?_) (fun hc => ?c63)
   case c63 =>
    replace hm := bF hc hm
    refine w_exit rfl ?_
    obtain rfl := someE hm
    exact ⟨_, rfl, g28, FrG.keep (ks := []) H30 (by kernel_rfl), hS⟩
   replace hm := bT hc hm
   refine w_skip ?_
   refine w_block ?_
   refine w_seq ?_
   refine s_reg [] [0, 1, 6, 7] [(0, [], .string ⟨⟨y3.1⟩⟩), (1, [], .func (.func 28) ⟨[]⟩ ⟨[vP b_tell_c0]⟩), (6, [], vP b12), (7, [], vI (w64 (v25 + 1)))] [] H30 (by kernel_rfl) trivial fun _ wd31 H32 hb => ?_
   clear H30
   replace hS := hS.below hb
   clear hb
   refine s_reg [] [0, 1, 6, 7, 33] [(0, [], .string ⟨⟨y3.1⟩⟩), (1, [], .func (.func 28) ⟨[]⟩ ⟨[vP b_tell_c0]⟩), (6, [], vP b12), (7, [], vI (w64 (v25 + 1))), (33, [], .bool (decide (1500 < (w64 (v25 + 1)))))] [] H32 (by kernel_rfl) trivial fun _ wd33 H34 hb => ?_
   clear H32
   replace hS := hS.below hb
   clear hb
   refine w_if H34 rfl (fun hc => ?c62) (fun hc => ?_)
   case c62 =>
    replace hm := bT hc hm
    refine s_reg [] [4] [(4, [], vI 4)] [] H34 (by kernel_rfl) trivial fun _ wd35 H36 hb => ?_
    clear H34
    replace hS := hS.below hb
    clear hb
    refine w_ret ?_
    obtain rfl := someE hm
    have hm := hm_z24
    obtain rfl := someE hm
    exact retR1 H36 rfl rfl ⟨_, rfl, g28, rfl, (hS.sel [1, 2] rfl)⟩
   replace hm := bF hc hm
   refine w_skip ?_
   refine s_reg [(vI v26)] [0, 1, 6, 7, 8] [(0, [], .string ⟨⟨y3.1⟩⟩), (1, [], .func (.func 28) ⟨[]⟩ ⟨[vP b_tell_c0]⟩), (6, [], vP b12), (7, [], vI (w64 (v25 + 1))), (8, [], vI v26)] [fun wz => V.at1 ⟨b12, 1, none⟩ (vI v26) wz] H34 (by kernel_rfl) ⟨((hS.bk 0 rfl).at1 rfl), trivial⟩ fun _ wd37 H38 hb => ?_
   clear H34
   replace hS := hS.below hb
   clear hb
   refine w_seq ?_
   refine wl_start ?_
   refine wl_batch 0 1 [] [0, 1, 6, 7, 8, 38] [(0, [], .string ⟨⟨y3.1⟩⟩), (1, [], .func (.func 28) ⟨[]⟩ ⟨[vP b_tell_c0]⟩), (6, [], vP b12), (7, [], vI (w64 (v25 + 1))), (8, [], vI v26), (38, [], vP b12)] [] H38 (by decide) (by kernel_rfl) trivial fun _ wd39 H40 hb => ?_
   clear H38
   replace hS := hS.below hb
   clear hb
   obtain ⟨y41, hy41, hm⟩ := bindE hm
   have hd := hS.hand [0] [1, 2, 3] rfl rfl
   refine m_stp [39, 0, 1, 6, 7, 8] [(0, [], .string ⟨⟨y3.1⟩⟩), (1, [], .func (.func 28) ⟨[]⟩ ⟨[vP b_tell_c0]⟩), (6, [], vP b12), (7, [], vI (w64 (v25 + 1))), (8, [], vI v26)] H40 rfl rfl rfl rfl (o_callx H40 rfl rfl (token_scanner_next_ok (b_c := b12) m _ _ _ hy41 _ _ hd)) (fun _ => rfl) fun _ wd42 v H43 hq => ?_
   clear H40 hd
   obtain ⟨rfl, hq⟩ := hq
   replace hS : SH M X w [eB b12 [.string ⟨⟨y3.1⟩⟩, vI y41.2], eB b_tell_c0 [vL g28 v27], eO 39 tyA2_int v27 g28, Ent.gint 0] _ := hS.join [0] [1, 2, 3] rfl rfl hq
   clear hq
   have hd := hS.hand [] [0, 1, 2, 3] rfl rfl
   refine m_stp [9, 0, 1, 6, 7, 8, 39] [(0, [], .string ⟨⟨y3.1⟩⟩), (1, [], .func (.func 28) ⟨[]⟩ ⟨[vP b_tell_c0]⟩), (6, [], vP b12), (7, [], vI (w64 (v25 + 1))), (8, [], vI v26), (39, [], .agg ⟨[vU y41.1.Kind, .string ⟨⟨y41.1.Text⟩⟩, vI y41.1.Num, .string ⟨⟨y41.1.Unit⟩⟩, .bool y41.1.Flag]⟩)] H43 rfl rfl rfl rfl (o_alloc [vU 0, vN, vI 0, vN, vF] (z := .agg ⟨[vU 0, vN, vI 0, vN, vF]⟩) hd (by kernel_rfl) rfl) (fun _ => rfl) fun _ wd45 v H46 hq => ?_
   clear H43 hd
   obtain ⟨b44, rfl, hq⟩ := hq
   replace hS : SH M X w [eB b44 [vU 0, vN, vI 0, vN, vF], eB b12 [.string ⟨⟨y3.1⟩⟩, vI y41.2], eB b_tell_c0 [vL g28 v27], eO 39 tyA2_int v27 g28, Ent.gint 0] _ := hS.join [] [0, 1, 2, 3] rfl rfl hq
   clear hq
   have hd := hS.hand [0] [1, 2, 3, 4] rfl rfl
   refine m_stp0 [0, 1, 6, 7, 8, 9] [(0, [], .string ⟨⟨y3.1⟩⟩), (1, [], .func (.func 28) ⟨[]⟩ ⟨[vP b_tell_c0]⟩), (6, [], vP b12), (7, [], vI (w64 (v25 + 1))), (8, [], vI v26), (9, [], vP b44)] H46 rfl rfl rfl (o_store [vU y41.1.Kind, .string ⟨⟨y41.1.Text⟩⟩, vI y41.1.Num, .string ⟨⟨y41.1.Unit⟩⟩, .bool y41.1.Flag] H46 hd rfl rfl (by kernel_rfl) rfl rfl rfl) rfl fun _ wd47 H48 hq => ?_
   clear H46 hd
   obtain ⟨_, hq⟩ := hq
   replace hS : SH M X w [eB b44 [vU y41.1.Kind, .string ⟨⟨y41.1.Text⟩⟩, vI y41.1.Num, .string ⟨⟨y41.1.Unit⟩⟩, .bool y41.1.Flag], eB b12 [.string ⟨⟨y3.1⟩⟩, vI y41.2], eB b_tell_c0 [vL g28 v27], eO 39 tyA2_int v27 g28, Ent.gint 0] _ := hS.join [0] [1, 2, 3, 4] rfl rfl hq
   clear hq
   refine wl_end rfl ?_
   obtain ⟨y50, hy50, hm⟩ := bindE hm
   refine s_drawS (base := [(0, [], .string ⟨⟨y3.1⟩⟩), (1, [], .func (.func 28) ⟨[]⟩ ⟨[vP b_tell_c0]⟩), (6, [], vP b12), (7, [], vI (w64 (v25 + 1))), (8, [], vI v26), (9, [], vP b44)]) (L := [eB b44 [vU y41.1.Kind, .string ⟨⟨y41.1.Text⟩⟩, vI y41.1.Num, .string ⟨⟨y41.1.Unit⟩⟩, .bool y41.1.Flag], eB b12 [.string ⟨⟨y3.1⟩⟩, vI y41.2], eB b_tell_c0 [vL g28 v27], eO 39 tyA2_int v27 g28, Ent.gint 0]) 8 5 (fun yg49 => [.func (.func 28) ⟨[]⟩ ⟨[vP b_tell_c0]⟩, .agg ⟨[vU y41.1.Kind, .string ⟨⟨y41.1.Text⟩⟩, vI y41.1.Num, .string ⟨⟨y41.1.Unit⟩⟩, .bool y41.1.Flag]⟩, vI v26, vP b12, vP b12, vA b12 1, vI y41.2, .tuple ⟨[]⟩]) (fun yg49 => [[], [], [], [], [], [], [], [eB b_tell_c0 [.slice (yg49 7 0).a y50.length (yg49 7 0).c], eO 39 tyA2_int y50 (yg49 7 0)]]) [[10, 11], [8], [], [9], [9], [9], [9], [10, 11]] [[], [], [], [], [], [], [], [10, 11]] [[0], [1], [2], [3], [3, 4], [3, 4, 5], [3, 4, 5, 6], [0, 1, 2, 3, 4, 5, 6, 7]] [] (FrG.keep (ks := [0, 1, 6, 7, 8, 9]) H48 (by kernel_rfl)) (fun _ _ h => by cases h) (by kernel_rfl) hS (by kernel_rfl) rfl rfl (by kernel_rfl) (by kernel_rfl) (by kernel_rfl) (gd_none (by kernel_rfl) _ _) ?hloc_yg49 ?hstep_yg49 fun _ wd53 yg49 H54 hv hS => ?hK_yg49
   case hloc_yg49 => exact ⟨(fun _ _ _ _ => ⟨rfl, rfl⟩), (fun _ _ _ _ => ⟨rfl, rfl⟩), (fun _ _ _ _ => ⟨rfl, rfl⟩), (fun _ _ _ _ => ⟨rfl, rfl⟩), (fun _ _ _ _ => ⟨rfl, rfl⟩), (fun _ _ _ _ => ⟨rfl, rfl⟩), (fun _ _ _ _ => ⟨rfl, rfl⟩), (fun yg49 i g hi => by have h7 : updC yg49 i g 7 = yg49 7 := updC_out hi rfl; exact ⟨(show (.tuple ⟨[]⟩ : Value) = .tuple ⟨[]⟩ by simp only []), (show ([eB b_tell_c0 [.slice ((updC yg49 i g) 7 0).a y50.length ((updC yg49 i g) 7 0).c], eO 39 tyA2_int y50 ((updC yg49 i g) 7 0)] : List Ent) = [eB b_tell_c0 [.slice (yg49 7 0).a y50.length (yg49 7 0).c], eO 39 tyA2_int y50 (yg49 7 0)] by simp only [h7])⟩), trivial⟩
   case hstep_yg49 =>
    refine ⟨?_, ?_, ?_, ?_, ?_, ?_, ?_, ?_, trivial⟩
    ·intro o ho a w yg49 M Hb hv hO hS
     obtain rfl := Option.some.inj ho
     exact Stp.mono (o_evs [] (.func (.func 28) ⟨[]⟩ ⟨[vP b_tell_c0]⟩) none [] Hb rfl (by kernel_rfl) (fun q e => by cases e)) fun _ _ hq => ⟨gL [], fun _ _ => hq.1, (hS.below hq.2.below).sel [0, 1] rfl⟩
    ·intro o ho a w yg49 M Hb hv hO hS
     obtain rfl := Option.some.inj ho
     exact Stp.mono (o_evs [(.agg ⟨[vU y41.1.Kind, .string ⟨⟨y41.1.Text⟩⟩, vI y41.1.Num, .string ⟨⟨y41.1.Unit⟩⟩, .bool y41.1.Flag]⟩)] (.agg ⟨[vU y41.1.Kind, .string ⟨⟨y41.1.Text⟩⟩, vI y41.1.Num, .string ⟨⟨y41.1.Unit⟩⟩, .bool y41.1.Flag]⟩) (some (fun wz => V.atN b44 0 [vU y41.1.Kind, .string ⟨⟨y41.1.Text⟩⟩, vI y41.1.Num, .string ⟨⟨y41.1.Unit⟩⟩, .bool y41.1.Flag] 0 wz)) [] Hb rfl (by kernel_rfl) (fun q e => by cases e; exact ((hS.bk 0 rfl).atD rfl))) fun _ _ hq => ⟨gL [], fun _ _ => hq.1, (hS.below hq.2.below).sel [0] rfl⟩
    ·intro o ho a w yg49 M Hb hv hO hS
     obtain rfl := Option.some.inj ho
     exact Stp.mono (o_evs [] (vI v26) none [] Hb rfl (by kernel_rfl) (fun q e => by cases e)) fun _ _ hq => ⟨gL [], fun _ _ => hq.1, (hS.below hq.2.below).sel [] rfl⟩
    ·intro o ho a w yg49 M Hb hv hO hS
     obtain rfl := Option.some.inj ho
     exact Stp.mono (o_evs [] (vP b12) none [] Hb rfl (by kernel_rfl) (fun q e => by cases e)) fun _ _ hq => ⟨gL [], fun _ _ => hq.1, (hS.below hq.2.below).sel [0] rfl⟩
    ·intro o ho a w yg49 M Hb hv hO hS
     obtain rfl := Option.some.inj ho
     exact Stp.mono (o_evs [] (vP b12) none [] ((Hb).add (hv 3 (by decide) (by decide) 43 rfl)) rfl (by kernel_rfl) (fun q e => by cases e)) fun _ _ hq => ⟨gL [], fun _ _ => hq.1, (hS.below hq.2.below).sel [0] rfl⟩
    ·intro o ho a w yg49 M Hb hv hO hS
     obtain rfl := Option.some.inj ho
     exact Stp.mono (o_evs [] (vA b12 1) none [] ((Hb).add (hv 4 (by decide) (by decide) 44 rfl)) rfl (by kernel_rfl) (fun q e => by cases e)) fun _ _ hq => ⟨gL [], fun _ _ => hq.1, (hS.below hq.2.below).sel [0] rfl⟩
    ·intro o ho a w yg49 M Hb hv hO hS
     obtain rfl := Option.some.inj ho
     exact Stp.mono (o_evs [(vI y41.2)] (vI y41.2) (some (fun wz => V.at1 ⟨b12, 1, none⟩ (vI y41.2) wz)) [] ((Hb).add (hv 5 (by decide) (by decide) 45 rfl)) rfl (by kernel_rfl) (fun q e => by cases e; exact ((hS.bk 0 rfl).at1 rfl))) fun _ _ hq => ⟨gL [], fun _ _ => hq.1, (hS.below hq.2.below).sel [0] rfl⟩
    ·intro o ho a w yg49 M Hb hv hO hS0
     obtain rfl := Option.some.inj ho
     have H : Fr 50 ([(46, [], vI y41.2), (42, [], vI v26), (41, [], .agg ⟨[vU y41.1.Kind, .string ⟨⟨y41.1.Text⟩⟩, vI y41.1.Num, .string ⟨⟨y41.1.Unit⟩⟩, .bool y41.1.Flag]⟩), (40, [], .func (.func 28) ⟨[]⟩ ⟨[vP b_tell_c0]⟩)] ++ [(0, [], .string ⟨⟨y3.1⟩⟩), (1, [], .func (.func 28) ⟨[]⟩ ⟨[vP b_tell_c0]⟩), (6, [], vP b12), (7, [], vI (w64 (v25 + 1))), (8, [], vI v26), (9, [], vP b44)]) _ := ((((Hb).add (hv 0 (by decide) (by decide) 40 rfl)).add (hv 1 (by decide) (by decide) 41 rfl)).add (hv 2 (by decide) (by decide) 42 rfl)).add (hv 6 (by decide) (by decide) 46 rfl)
     obtain ⟨X, hX⟩ : ∃ X, X = fpl [eB b_tell_c0 [vL g28 v27], eO 39 tyA2_int v27 g28] := ⟨_, rfl⟩
     have hS : SH M X w [eB b_tell_c0 [vL g28 v27], eO 39 tyA2_int v27 g28] w := by rw [hX]; exact hS0
     have hd := hS.hand [0, 1] [] rfl rfl
     refine Stp.mono (o_callx H rfl rfl (token_Spans_1_ok (b_u0 := b_tell_c0) (g_u0 := g28) _ _ _ _ _ hy50 _ _ hd)) ?_
     rintro v w2 hq
     obtain ⟨g51, rfl, hq⟩ := hq
     replace hS : SH M X w [eB b_tell_c0 [vL g51 y50], eO 39 tyA2_int y50 g51] _ := hS.join [0, 1] [] rfl rfl hq
     clear hq
     rw [hX] at hS
     exact ⟨gL [g51], fun _ _ => rfl, hS.sel [0, 1] rfl⟩
   have H55 : Fr 50 [(0, [], .string ⟨⟨y3.1⟩⟩), (1, [], .func (.func 28) ⟨[]⟩ ⟨[vP b_tell_c0]⟩), (6, [], vP b12), (7, [], vI (w64 (v25 + 1)))] _ := (FrG.keep (ks := [0, 1, 6, 7]) H54 (by kernel_rfl))
   replace hS : SH M X w [eB b_tell_c0 [.slice (yg49 7 0).a y50.length (yg49 7 0).c], eO 39 tyA2_int y50 (yg49 7 0), eB b44 [vU y41.1.Kind, .string ⟨⟨y41.1.Text⟩⟩, vI y41.1.Num, .string ⟨⟨y41.1.Unit⟩⟩, .bool y41.1.Flag], eB b12 [.string ⟨⟨y3.1⟩⟩, vI y41.2], Ent.gint 0] _ := hS
   clear hv H54
   generalize yg49 7 0 = g56 at H55 hS
   replace hS : SH M X w [eB b_tell_c0 [vL g56 y50], eO 39 tyA2_int y50 g56, eB b12 [.string ⟨⟨y3.1⟩⟩, vI y41.2], Ent.gint 0] _ := hS.sel [0, 1, 3, 4] rfl
   refine wl_start ?_
   refine wl_batch 0 1 [] [0, 1, 6, 7, 48] [(0, [], .string ⟨⟨y3.1⟩⟩), (1, [], .func (.func 28) ⟨[]⟩ ⟨[vP b_tell_c0]⟩), (6, [], vP b12), (7, [], vI (w64 (v25 + 1))), (48, [], vP b12)] [] H55 (by decide) (by kernel_rfl) trivial fun _ wd57 H58 hb => ?_
   clear H55
   replace hS := hS.below hb
   clear hb
   obtain ⟨y59, hy59, hm⟩ := bindE hm
   have hd := hS.hand [2, 3] [0, 1, 3] rfl rfl
   refine m_stp [49, 0, 1, 6, 7] [(0, [], .string ⟨⟨y3.1⟩⟩), (1, [], .func (.func 28) ⟨[]⟩ ⟨[vP b_tell_c0]⟩), (6, [], vP b12), (7, [], vI (w64 (v25 + 1)))] H58 rfl rfl rfl rfl (o_callx H58 rfl rfl (token_scanner_comments_ok (b_c := b12) m _ _ _ hy59 _ _ hd)) (fun _ => rfl) fun _ wd60 v H61 hq => ?_
   clear H58 hd
   obtain ⟨rfl, hq⟩ := hq
   replace hS : SH M X w [eB b12 [.string ⟨⟨y3.1⟩⟩, vI y59], eB b_tell_c0 [vL g56 y50], eO 39 tyA2_int y50 g56, Ent.gint 0] _ := hS.join [2, 3] [0, 1, 3] rfl rfl hq
   clear hq
   refine wl_end rfl ?_
   exact ⟨_, Nat.lt_succ_self _, w64 (v25 + 1), y59, y50, g56, hm, FrG.keep (ks := [0, 1, 6, 7]) H61 (by kernel_rfl), hS⟩
 ·rintro _ wd68 ⟨s_z24, hz, g65, H, hS⟩
  subst hz
  replace hm := sumR hm_z24
  replace hS : SH M X w [eB b_tell_c0 [.slice g65.a s_z24.2.length g65.c], eO 39 tyA2_int s_z24.2 g65, Ent.gint 0] _ := hS.sel [1, 2, 3] rfl
  refine s_reg [] [4] [(4, [], vI 0)] [] H (by kernel_rfl) trivial fun _ wd66 H67 hb => ?_
  clear H
  replace hS := hS.below hb
  clear hb
  refine w_ret ?_
  obtain rfl := someE hm
  exact retR1 H67 rfl rfl ⟨_, rfl, g65, rfl, (hS.sel [0, 1] rfl)⟩
theorem token_read_2_ok {b_tell_c0 : Nat} {g_tell_c0 : Gh} (m : Nat) (s : Str) (tell_c0 : List TA2_int) (r : Int × (List TA2_int)) (hm : token_read_2 m s tell_c0 = some r) (M : Av) (w : World) (hS : S0 M [eB b_tell_c0 [vL g_tell_c0 tell_c0], eO 39 tyA2_int tell_c0 g_tell_c0, Ent.gint 0] w) : DoesX Tryz.prog 24 ⟨[vS s, .func (.func 28) ⟨[]⟩ ⟨[vP b_tell_c0]⟩]⟩ w (fun v w' => ∃ (g901 : Gh), v = vI r.1 ∧ SH M (fpl [eB b_tell_c0 [vL g_tell_c0 tell_c0], eO 39 tyA2_int tell_c0 g_tell_c0, Ent.gint 0]) w [eB b_tell_c0 [.slice g901.a r.2.length g901.c], eO 39 tyA2_int r.2 g901] w') := ⟨Tryz.call24 _, token_read_2_w M m   s tell_c0 r hm w hS⟩

theorem token_Spans_w  (M : Av) (m : Nat) (s : Str) (r : (List TA2_int) × Int) (hm : token_Spans m s = some r) (w : World) (hS : S0 M [Ent.gint 0] w) : Calls Tryz.prog 11 ⟨[vS s]⟩ w (fun e w' => ∃ v, e = .returned v ∧ ∃ (g901 : Gh), v = .tuple ⟨[.slice g901.a r.1.length g901.c, vI r.2]⟩ ∧ SH M (fpl [Ent.gint 0]) w [eO 39 tyA2_int r.1 g901] w') := by
 rw [token_Spans] at hm
 have hS0 : SH M (fpl [Ent.gint 0]) w [Ent.gint 0] w := hS
 generalize hX : fpl [Ent.gint 0] = X at hS0 ⊢
 clear hS hX
 have hS := hS0
 clear hS0
 refine calls_entryP Tryz.func11 rfl Tryz.ntmps11 rfl fun _ H => ?_
 refine s_reg [] [0] [(0, [], vS s)] [] H (by kernel_rfl) trivial fun _ wd1 H2 hb => ?_
 clear H
 replace hS := hS.below hb
 clear hb
 refine w_seq ?_
 refine wl_start ?_
 have hd := hS.hand [] [0] rfl rfl
 refine m_stp [4, 0] [(0, [], vS s)] H2 rfl rfl rfl rfl (o_alloc [vO] (z := vO) hd (by kernel_rfl) rfl) (fun _ => rfl) fun _ wd4 v H5 hq => ?_
 clear H2 hd
 obtain ⟨b3, rfl, hq⟩ := hq
 replace hS : SH M X w [eB b3 [vO], Ent.gint 0] _ := hS.join [] [0] rfl rfl hq
 clear hq
 refine wl_end rfl ?_
 refine w_seq ?_
 refine w_seq ?_
 refine wl_start ?_
 refine wl_batch 0 2 [] [4, 6, 7] [(4, [], vP b3), (6, [], vS s), (7, [], .func (.func 28) ⟨[]⟩ ⟨[vP b3]⟩)] [] H5 (by decide) (by kernel_rfl) trivial fun _ wd6 H7 hb => ?_
 clear H5
 replace hS := hS.below hb
 clear hb
 replace hS : SH M X w [eO 39 tyA2_int ([] : List TA2_int) (.nil), eB b3 [vO], Ent.gint 0] _ := hS.addNil 39 tyA2_int
 obtain ⟨y9, hy9, hm⟩ := bindE hm
 have hd := hS.hand [1, 0, 2] [2] rfl rfl
 refine m_stp [8, 4] [(4, [], vP b3)] H7 rfl rfl rfl rfl (o_callx H7 rfl rfl (token_read_2_ok (b_tell_c0 := b3) (g_tell_c0 := Gh.nil) m _ _ _ hy9 _ _ hd)) (fun _ => rfl) fun _ wd12 v H13 hq => ?_
 clear H7 hd
 obtain ⟨g10, rfl, hq⟩ := hq
 replace hS : SH M X w [eB b3 [.slice g10.a y9.2.length g10.c], eO 39 tyA2_int y9.2 g10, Ent.gint 0] _ := hS.join [1, 0, 2] [2] rfl rfl hq
 clear hq
 refine wl_batch 3 4 [] [4, 5] [(4, [], vP b3), (5, [], vI y9.1)] [] H13 (by decide) (by kernel_rfl) trivial fun _ wd14 H15 hb => ?_
 clear H13
 replace hS := hS.below hb
 clear hb
 refine wl_end rfl ?_
 refine s_reg [] [4, 5, 10] [(4, [], vP b3), (5, [], vI y9.1), (10, [], .bool (y9.1 != 0))] [] H15 (by kernel_rfl) trivial fun _ wd16 H17 hb => ?_
 clear H15
 replace hS := hS.below hb
 clear hb
 refine w_if H17 rfl (fun hc => ?_) (fun hc => ?c23)
 case c23 =>
  replace hm := bF hc hm
  refine w_skip ?_
  refine s_reg [(.slice g10.a y9.2.length g10.c)] [2, 3] [(2, [], .slice g10.a y9.2.length g10.c), (3, [], vI 0)] [fun wz => V.at1 ⟨b3, 0, none⟩ (.slice g10.a y9.2.length g10.c) wz] H17 (by kernel_rfl) ⟨((hS.bk 0 rfl).at1 rfl), trivial⟩ fun _ wd21 H22 hb => ?_
  clear H17
  replace hS := hS.below hb
  clear hb
  replace hS : SH M X w [eO 39 tyA2_int y9.2 g10, Ent.gint 0] _ := hS.sel [1, 2] rfl
  refine w_ret ?_
  obtain rfl := someE hm
  exact retR2 H22 rfl rfl rfl ⟨_, rfl, g10, rfl, (hS.sel [0] rfl)⟩
 replace hm := bT hc hm
 refine s_reg [] [2, 3] [(2, [], vO), (3, [], vI y9.1)] [] H17 (by kernel_rfl) trivial fun _ wd18 H19 hb => ?_
 clear H17
 replace hS := hS.below hb
 clear hb
 replace hS : SH M X w [Ent.gint 0] _ := hS.sel [2] rfl
 refine w_ret ?_
 obtain rfl := someE hm
 replace hS : SH M X w [eO 39 tyA2_int ([] : List TA2_int) (.nil), Ent.gint 0] _ := hS.addNil 39 tyA2_int
 exact retR2 H19 rfl rfl rfl ⟨_, rfl, Gh.nil, rfl, (hS.sel [0] rfl)⟩
theorem token_Spans_ok  (m : Nat) (s : Str) (r : (List TA2_int) × Int) (hm : token_Spans m s = some r) (M : Av) (w : World) (hS : S0 M [Ent.gint 0] w) : DoesX Tryz.prog 11 ⟨[vS s]⟩ w (fun v w' => ∃ (g901 : Gh), v = .tuple ⟨[.slice g901.a r.1.length g901.c, vI r.2]⟩ ∧ SH M (fpl [Ent.gint 0]) w [eO 39 tyA2_int r.1 g901] w') := ⟨Tryz.call11 _, token_Spans_w M m   s r hm w hS⟩

theorem r02_Same_w {g_a_ : Gh} {g_b_ : Gh} (M : Av) (m : Nat) (a_ : List TToken) (b_ : List TToken) (r : Bool) (hm : r02_Same m a_ b_ = some r) (w : World) (hS : S0 M [eI tyToken a_ g_a_, eI tyToken b_ g_b_] w) : Calls Tryz.prog 13 ⟨[vL g_a_ a_, vL g_b_ b_]⟩ w (fun e w' => ∃ v, e = .returned v ∧ v = .bool r ∧ SH M (fpl [eI tyToken a_ g_a_, eI tyToken b_ g_b_]) w [] w') := by
 rw [r02_Same] at hm
 have hS0 : SH M (fpl [eI tyToken a_ g_a_, eI tyToken b_ g_b_]) w [eI tyToken a_ g_a_, eI tyToken b_ g_b_] w := hS
 generalize hX : fpl [eI tyToken a_ g_a_, eI tyToken b_ g_b_] = X at hS0 ⊢
 clear hS hX
 have hS := hS0
 clear hS0
 refine calls_entryP Tryz.func13 rfl Tryz.ntmps13 rfl fun _ H => ?_
 refine s_reg [] [0, 1] [(0, [], vL g_a_ a_), (1, [], vL g_b_ b_)] [] H (by kernel_rfl) trivial fun _ wd1 H2 hb => ?_
 clear H
 replace hS := hS.below hb
 clear hb
 refine w_seq ?_
 refine s_reg [] [0, 1, 10] [(0, [], vL g_a_ a_), (1, [], vL g_b_ b_), (10, [], .bool ((ln a_) != (ln b_)))] [] H2 (by kernel_rfl) trivial fun _ wd3 H4 hb => ?_
 clear H2
 replace hS := hS.below hb
 clear hb
 refine w_if H4 rfl (fun hc => ?c28) (fun hc => ?_)
 case c28 =>
  replace hm := bT hc hm
  refine s_reg [] [4] [(4, [], vF)] [] H4 (by kernel_rfl) trivial fun _ wd5 H6 hb => ?_
  clear H4
  replace hS := hS.below hb
  clear hb
  replace hS : SH M X w [] _ := hS.sel [] rfl
  refine w_ret ?_
  obtain rfl := someE hm
  exact retR1 H6 rfl rfl ⟨_, rfl, rfl, (hS.sel [] rfl)⟩
 replace hm := bF hc hm
 refine w_skip ?_
 obtain ⟨z7, hz, hm_z7⟩ := bindE hm
 refine w_cut (fun a' w' => ∃ s_z7 : Unit, z7 = Sum.inr s_z7 ∧ Fr 26 [] a' ∧ SH M X w [eI tyToken a_ g_a_, eI tyToken b_ g_b_] w') ?_ ?_
 ·replace hm := hz
  refine s_reg [] [0, 1, 5] [(0, [], vL g_a_ a_), (1, [], vL g_b_ b_), (5, [], vI 0)] [] H4 (by kernel_rfl) trivial fun _ wd8 H9 hb => ?_
  clear H4
  replace hS := hS.below hb
  clear hb
  refine w_block ?_
  refine w_loop (fun kk a' w' => ∃ (v10 : Int), r02_Same_L1 m a_ b_ kk v10 = some _ ∧ Fr 26 [(0, [], vL g_a_ a_), (1, [], vL g_b_ b_), (5, [], vI v10)] a' ∧ SH M X w [eI tyToken a_ g_a_, eI tyToken b_ g_b_] w') ⟨_, 0, hm, FrG.keep (ks := [0, 1, 5]) H9 (by kernel_rfl), hS⟩ ?_
  clear hm H9 hS
  rintro kk _ wd24 ⟨v10, hm, H, hS⟩
  cases kk with
  | zero => exact noneE hm
  | succ kk =>
   rw [r02_Same_L1] at hm
   refine w_seq ?_
   refine s_reg [] [0, 1, 5, 14] [(0, [], vL g_a_ a_), (1, [], vL g_b_ b_), (5, [], vI v10), (14, [], .bool (decide (v10 < (ln a_))))] [] H (by kernel_rfl) trivial fun _ wd11 H12 hb => ?_
   clear H
   replace hS := hS.below hb
   clear hb
   refine w_if H12 rfl (fun hc => ?_) (fun hc => ?c23)
   case c23 =>
    replace hm := bF hc hm
    refine w_exit rfl ?_
    obtain rfl := someE hm
    exact ⟨_, rfl, FrG.keep (ks := []) H12 (by kernel_rfl), hS⟩
   replace hm := bT hc hm
   refine w_skip ?_
   refine w_seq ?_
   refine w_block ?_
   obtain ⟨ho13, hm⟩ := chkE hm
   obtain ⟨ho14, hm⟩ := chkE hm
   obtain ⟨x15, hx15, hm⟩ := letE hm
   refine s_draw [(.agg ⟨[vU ((gi a_ v10).Kind), .string ⟨⟨(gi a_ v10).Text⟩⟩, vI ((gi a_ v10).Num), .string ⟨⟨(gi a_ v10).Unit⟩⟩, .bool ((gi a_ v10).Flag)]⟩), (.agg ⟨[vU ((gi b_ v10).Kind), .string ⟨⟨(gi b_ v10).Text⟩⟩, vI ((gi b_ v10).Num), .string ⟨⟨(gi b_ v10).Unit⟩⟩, .bool ((gi b_ v10).Flag)]⟩)] [0, 1, 5, 25] [(0, [], vL g_a_ a_), (1, [], vL g_b_ b_), (5, [], vI v10), (25, [], .bool x15)] [fun _ => oka g_a_.a ∧ 0 ≤ v10 ∧ v10 < ln a_, fun wz => V.atN (ab g_a_.a) (ao g_a_.a + (v10).toNat * 5) [vU ((gi a_ v10).Kind), .string ⟨⟨(gi a_ v10).Text⟩⟩, vI ((gi a_ v10).Num), .string ⟨⟨(gi a_ v10).Unit⟩⟩, .bool ((gi a_ v10).Flag)] 0 wz, fun _ => oka g_b_.a ∧ 0 ≤ v10 ∧ v10 < ln b_, fun wz => V.atN (ab g_b_.a) (ao g_b_.a + (v10).toNat * 5) [vU ((gi b_ v10).Kind), .string ⟨⟨(gi b_ v10).Text⟩⟩, vI ((gi b_ v10).Num), .string ⟨⟨(gi b_ v10).Unit⟩⟩, .bool ((gi b_ v10).Flag)] 0 wz] H12 (by kernel_rfl) (by kernel_rfl) (by subst hx15; kernel_rfl) ⟨((hS.im 0 rfl).oki ho13), ((hS.im 0 rfl).atA ho13 0 rfl), ((hS.im 1 rfl).oki ho14), ((hS.im 1 rfl).atA ho14 0 rfl), trivial⟩ fun _ wd16 H17 hb => ?_
   clear H12
   replace hS := hS.below hb
   clear hb
   refine w_if H17 rfl (fun hc => ?_) (fun hc => ?c22)
   case c22 =>
    replace hm := bF hc hm
    refine w_skip ?_
    refine w_reg [] [0, 1, 5] [(0, [], vL g_a_ a_), (1, [], vL g_b_ b_), (5, [], vI (w64 (v10 + 1)))] [] H17 (by kernel_rfl) trivial fun _ wd20 H21 hb => ?_
    clear H17
    replace hS := hS.below hb
    clear hb
    exact ⟨_, Nat.lt_succ_self _, w64 (v10 + 1), hm, FrG.keep (ks := [0, 1, 5]) H21 (by kernel_rfl), hS⟩
   replace hm := bT hc hm
   refine s_reg [] [4] [(4, [], vF)] [] H17 (by kernel_rfl) trivial fun _ wd18 H19 hb => ?_
   clear H17
   replace hS := hS.below hb
   clear hb
   refine w_ret ?_
   obtain rfl := someE hm
   have hm := hm_z7
   obtain rfl := someE hm
   exact retR1 H19 rfl rfl ⟨_, rfl, rfl, (hS.sel [] rfl)⟩
 ·rintro _ wd27 ⟨s_z7, hz, H, hS⟩
  subst hz
  replace hm := sumR hm_z7
  replace hS : SH M X w [] _ := hS.sel [] rfl
  refine s_reg [] [4] [(4, [], vT)] [] H (by kernel_rfl) trivial fun _ wd25 H26 hb => ?_
  clear H
  replace hS := hS.below hb
  clear hb
  refine w_ret ?_
  obtain rfl := someE hm
  exact retR1 H26 rfl rfl ⟨_, rfl, rfl, (hS.sel [] rfl)⟩
theorem r02_Same_ok {g_a_ : Gh} {g_b_ : Gh} (m : Nat) (a_ : List TToken) (b_ : List TToken) (r : Bool) (hm : r02_Same m a_ b_ = some r) (w : World) (hL : S0 F0 [eI tyToken a_ g_a_, eI tyToken b_ g_b_] w ∧ fpl [eI tyToken a_ g_a_, eI tyToken b_ g_b_] = []) : RetB Tryz.prog 13 ⟨[vL g_a_ a_, vL g_b_ b_]⟩ (.bool r) w := retB_of hL (Tryz.call13 _) (fun w' h => r02_Same_w F0 m   a_ b_ r hm w' h)

theorem law02_is_w  (M : Av) (m : Nat) (s : Str) (want : TToken) (r : Bool) (hm : law02_is m s want = some r) (w : World) (hS : S0 M [Ent.gint 0] w) : Calls Tryz.prog 22 ⟨[vS s, .agg ⟨[vU want.Kind, .string ⟨⟨want.Text⟩⟩, vI want.Num, .string ⟨⟨want.Unit⟩⟩, .bool want.Flag]⟩]⟩ w (fun e w' => ∃ v, e = .returned v ∧ v = .bool r ∧ SH M (fpl [Ent.gint 0]) w [] w') := by
 rw [law02_is] at hm
 have hS0 : SH M (fpl [Ent.gint 0]) w [Ent.gint 0] w := hS
 generalize hX : fpl [Ent.gint 0] = X at hS0 ⊢
 clear hS hX
 have hS := hS0
 clear hS0
 refine calls_entryP Tryz.func22 rfl Tryz.ntmps22 rfl fun _ H => ?_
 refine w_seq ?_
 refine wl_start ?_
 have hd := hS.hand [] [0] rfl rfl
 refine m_stp [3, 0] [(0, [], vS s)] H rfl rfl rfl rfl (o_box [vU want.Kind, .string ⟨⟨want.Text⟩⟩, vI want.Num, .string ⟨⟨want.Unit⟩⟩, .bool want.Flag] H hd rfl rfl) (fun _ => rfl) fun _ wd2 v H3 hq => ?_
 clear H hd
 obtain ⟨b1, rfl, hq⟩ := hq
 replace hS : SH M X w [eB b1 [vU want.Kind, .string ⟨⟨want.Text⟩⟩, vI want.Num, .string ⟨⟨want.Unit⟩⟩, .bool want.Flag], Ent.gint 0] _ := hS.join [] [0] rfl rfl hq
 clear hq
 refine wl_batch 1 2 [] [0, 3] [(0, [], vS s), (3, [], vP b1)] [] H3 (by decide) (by kernel_rfl) trivial fun _ wd4 H5 hb => ?_
 clear H3
 replace hS := hS.below hb
 clear hb
 refine wl_end rfl ?_
 refine w_seq ?_
 refine wl_start ?_
 refine wl_batch 0 1 [] [3, 8] [(3, [], vP b1), (8, [], vS s)] [] H5 (by decide) (by kernel_rfl) trivial fun _ wd6 H7 hb => ?_
 clear H5
 replace hS := hS.below hb
 clear hb
 obtain ⟨y8, hy8, hm⟩ := bindE hm
 have hd := hS.hand [1] [0, 1] rfl rfl
 refine m_stp [9, 3] [(3, [], vP b1)] H7 rfl rfl rfl rfl (o_callx H7 rfl rfl (token_Tokens_ok m _ _ hy8 _ _ hd)) (fun _ => rfl) fun _ wd11 v H12 hq => ?_
 clear H7 hd
 obtain ⟨g9, rfl, hq⟩ := hq
 replace hS : SH M X w [eO 44 tyToken y8.1 g9, eB b1 [vU want.Kind, .string ⟨⟨want.Text⟩⟩, vI want.Num, .string ⟨⟨want.Unit⟩⟩, .bool want.Flag], Ent.gint 0] _ := hS.join [1] [0, 1] rfl rfl hq
 clear hq
 refine wl_batch 2 7 [] [3, 5, 6] [(3, [], vP b1), (5, [], .slice g9.a y8.1.length g9.c), (6, [], vI y8.2)] [] H12 (by decide) (by kernel_rfl) trivial fun _ wd13 H14 hb => ?_
 clear H12
 replace hS := hS.below hb
 clear hb
 refine wl_end rfl ?_
 obtain ⟨ho15, hm⟩ := chkE hm
 obtain ⟨x16, hx16, hm⟩ := letE hm
 refine s_draw [(.agg ⟨[vU ((gi y8.1 (0 : Int)).Kind), .string ⟨⟨(gi y8.1 (0 : Int)).Text⟩⟩, vI ((gi y8.1 (0 : Int)).Num), .string ⟨⟨(gi y8.1 (0 : Int)).Unit⟩⟩, .bool ((gi y8.1 (0 : Int)).Flag)]⟩), (.agg ⟨[vU want.Kind, .string ⟨⟨want.Text⟩⟩, vI want.Num, .string ⟨⟨want.Unit⟩⟩, .bool want.Flag]⟩)] [4] [(4, [], .bool x16)] [fun _ => ((cond (y8.2 == 0) ((ln y8.1) == 1) false) = true ∧ True → oka g9.a ∧ 0 ≤ (0 : Int) ∧ (0 : Int) < ln y8.1), fun wz => ((cond (y8.2 == 0) ((ln y8.1) == 1) false) = true ∧ True → V.atN (ab g9.a) (ao g9.a + ((0 : Int)).toNat * 5) [vU ((gi y8.1 (0 : Int)).Kind), .string ⟨⟨(gi y8.1 (0 : Int)).Text⟩⟩, vI ((gi y8.1 (0 : Int)).Num), .string ⟨⟨(gi y8.1 (0 : Int)).Unit⟩⟩, .bool ((gi y8.1 (0 : Int)).Flag)] 0 wz), fun wz => ((cond (y8.2 == 0) ((ln y8.1) == 1) false) = true ∧ True → V.atN b1 0 [vU want.Kind, .string ⟨⟨want.Text⟩⟩, vI want.Num, .string ⟨⟨want.Unit⟩⟩, .bool want.Flag] 0 wz)] H14 (by kernel_rfl) (by kernel_rfl) (by subst hx16; kernel_rfl) ⟨fun hg => (hS.osl 0 rfl).oki (ho15 hg.1), fun hg => (hS.osl 0 rfl).atA (ho15 hg.1) 0 rfl, fun hg => (hS.bk 1 rfl).atD rfl, trivial⟩ fun _ wd17 H18 hb => ?_
 clear H14
 replace hS := hS.below hb
 clear hb
 replace hS : SH M X w [Ent.gint 0] _ := hS.sel [2] rfl
 refine w_ret ?_
 obtain rfl := someE hm
 exact retR1 H18 rfl rfl ⟨_, rfl, rfl, (hS.sel [] rfl)⟩
theorem law02_is_ok  (m : Nat) (s : Str) (want : TToken) (r : Bool) (hm : law02_is m s want = some r) (w : World) (hL : S0 F0 [Ent.gint 0] w ∧ fpl [Ent.gint 0] = []) : RetB Tryz.prog 22 ⟨[vS s, .agg ⟨[vU want.Kind, .string ⟨⟨want.Text⟩⟩, vI want.Num, .string ⟨⟨want.Unit⟩⟩, .bool want.Flag]⟩]⟩ (.bool r) w := retB_of hL (Tryz.call22 _) (fun w' h => law02_is_w F0 m   s want r hm w' h)

theorem law02_alive_w  (M : Av) (m : Nat)  (r : Bool) (hm : law02_alive m = some r) (w : World) (hS : S0 M [Ent.gint 0] w) : Calls Tryz.prog 15 ⟨[]⟩ w (fun e w' => ∃ v, e = .returned v ∧ v = .bool r ∧ SH M (fpl [Ent.gint 0]) w [] w') := by
 rw [law02_alive] at hm
 have hS0 : SH M (fpl [Ent.gint 0]) w [Ent.gint 0] w := hS
 generalize hX : fpl [Ent.gint 0] = X at hS0 ⊢
 clear hS hX
 have hS := hS0
 clear hS0
 refine calls_entryP Tryz.func15 rfl Tryz.ntmps15 rfl fun _ H => ?_
 refine s_reg [] [] [] [] H (by kernel_rfl) trivial fun _ wd1 H2 hb => ?_
 clear H
 replace hS := hS.below hb
 clear hb
 refine w_seq ?_
 refine wl_start ?_
 obtain ⟨y3, hy3, hm⟩ := bindE hm
 have hd := hS.hand [0] [0] rfl rfl
 refine m_stp [7] [] H2 rfl rfl rfl rfl (o_callx H2 rfl rfl (token_Tokens_ok m _ _ hy3 _ _ hd)) (fun _ => rfl) fun _ wd6 v H7 hq => ?_
 clear H2 hd
 obtain ⟨g4, rfl, hq⟩ := hq
 replace hS : SH M X w [eO 44 tyToken y3.1 g4, Ent.gint 0] _ := hS.join [0] [0] rfl rfl hq
 clear hq
 refine wl_batch 1 6 [] [1, 2] [(1, [], .slice g4.a y3.1.length g4.c), (2, [], vI y3.2)] [] H7 (by decide) (by kernel_rfl) trivial fun _ wd8 H9 hb => ?_
 clear H7
 replace hS := hS.below hb
 clear hb
 refine wl_end rfl ?_
 refine w_seq ?_
 refine wl_start ?_
 obtain ⟨y10, hy10, hm⟩ := bindE hm
 have hd := hS.hand [1] [0, 1] rfl rfl
 refine m_stp [11, 1, 2] [(1, [], .slice g4.a y3.1.length g4.c), (2, [], vI y3.2)] H9 rfl rfl rfl rfl (o_callx H9 rfl rfl (token_Spans_ok m _ _ hy10 _ _ hd)) (fun _ => rfl) fun _ wd13 v H14 hq => ?_
 clear H9 hd
 obtain ⟨g11, rfl, hq⟩ := hq
 replace hS : SH M X w [eO 39 tyA2_int y10.1 g11, eO 44 tyToken y3.1 g4, Ent.gint 0] _ := hS.join [1] [0, 1] rfl rfl hq
 clear hq
 refine wl_batch 1 6 [] [1, 2, 3, 4] [(1, [], .slice g4.a y3.1.length g4.c), (2, [], vI y3.2), (3, [], .slice g11.a y10.1.length g11.c), (4, [], vI y10.2)] [] H14 (by decide) (by kernel_rfl) trivial fun _ wd15 H16 hb => ?_
 clear H14
 replace hS := hS.below hb
 clear hb
 refine wl_end rfl ?_
 refine w_seq ?_
 obtain ⟨x17, hx17, hm⟩ := letE hm
 obtain ⟨ho18, hm⟩ := chkE hm
 obtain ⟨x19, hx19, hm⟩ := letE hm
 refine s_reg [(.agg ⟨[vI ((gi y10.1 (7 : Int)).e0), vI ((gi y10.1 (7 : Int)).e1)]⟩)] [1, 31] [(1, [], .slice g4.a y3.1.length g4.c), (31, [], .bool x19)] [fun _ => (x17 = false ∧ True → oka g11.a ∧ 0 ≤ (7 : Int) ∧ (7 : Int) < ln y10.1), fun wz => (x17 = false ∧ True → V.atN (ab g11.a) (ao g11.a + ((7 : Int)).toNat * 2) [vI ((gi y10.1 (7 : Int)).e0), vI ((gi y10.1 (7 : Int)).e1)] 0 wz)] H16 (by subst hx17 hx19; kernel_rfl) ⟨fun hg => (hS.osl 0 rfl).oki (ho18 hg.1), fun hg => (hS.osl 0 rfl).atA (ho18 hg.1) 0 rfl, trivial⟩ fun _ wd20 H21 hb => ?_
 clear H16
 replace hS := hS.below hb
 clear hb
 replace hS : SH M X w [eO 44 tyToken y3.1 g4, Ent.gint 0] _ := hS.sel [1, 2] rfl
 refine w_if H21 rfl (fun hc => ?c39) (fun hc => ?_)
 case c39 =>
  replace hm := bT hc hm
  refine s_reg [] [0] [(0, [], vF)] [] H21 (by kernel_rfl) trivial fun _ wd22 H23 hb => ?_
  clear H21
  replace hS := hS.below hb
  clear hb
  replace hS : SH M X w [Ent.gint 0] _ := hS.sel [1] rfl
  refine w_ret ?_
  obtain rfl := someE hm
  exact retR1 H23 rfl rfl ⟨_, rfl, rfl, (hS.sel [] rfl)⟩
 replace hm := bF hc hm
 refine w_skip ?_
 refine w_seq ?_
 refine wl_start ?_
 refine wl_batch 0 8 [] [1, 32, 33, 34, 35, 36, 37, 38, 39] [(1, [], .slice g4.a y3.1.length g4.c), (32, [], .agg ⟨[vU 1, vS [97], vI 0, vN, vF]⟩), (33, [], .agg ⟨[vU 9, vS [46], vI 0, vN, vF]⟩), (34, [], .agg ⟨[vU 1, vS [98], vI 0, vN, vF]⟩), (35, [], .agg ⟨[vU 23, vN, vI 0, vN, vF]⟩), (36, [], .agg ⟨[vU 1, vS [99, 111, 108, 111, 114], vI 0, vN, vF]⟩), (37, [], .agg ⟨[vU 16, vN, vI 0, vN, vF]⟩), (38, [], .agg ⟨[vU 4, vS [102, 48, 48], vI 0, vN, vT]⟩), (39, [], .agg ⟨[vU 24, vN, vI 0, vN, vF]⟩)] [] H21 (by decide) (by kernel_rfl) trivial fun _ wd24 H25 hb => ?_
 clear H21
 replace hS := hS.below hb
 clear hb
 have hd := hS.hand [] [0, 1] rfl rfl
 refine m_stp [40, 1] [(1, [], .slice g4.a y3.1.length g4.c)] H25 rfl rfl rfl rfl (o_lit (T := tyToken) (E := 44) (zv := .agg ⟨[vU 0, vN, vI 0, vN, vF]⟩) [vU 1, vS [97], vI 0, vN, vF, vU 9, vS [46], vI 0, vN, vF, vU 1, vS [98], vI 0, vN, vF, vU 23, vN, vI 0, vN, vF, vU 1, vS [99, 111, 108, 111, 114], vI 0, vN, vF, vU 16, vN, vI 0, vN, vF, vU 4, vS [102, 48, 48], vI 0, vN, vT, vU 24, vN, vI 0, vN, vF] ([(TToken.mk 1 [97] 0 [] false), (TToken.mk 9 [46] 0 [] false), (TToken.mk 1 [98] 0 [] false), (TToken.mk 23 [] 0 [] false), (TToken.mk 1 [99, 111, 108, 111, 114] 0 [] false), (TToken.mk 16 [] 0 [] false), (TToken.mk 4 [102, 48, 48] 0 [] true), (TToken.mk 24 [] 0 [] false)] : List TToken) [gL [], gL [], gL [], gL [], gL [], gL [], gL [], gL []] _ H25 hd rfl (by kernel_rfl) (by kernel_rfl) (by kernel_rfl) (by kernel_rfl) (by kernel_rfl) (by kernel_rfl) (by kernel_rfl) rfl (InnL.cons trivial (InnL.cons trivial (InnL.cons trivial (InnL.cons trivial (InnL.cons trivial (InnL.cons trivial (InnL.cons trivial (InnL.cons trivial InnL.nil))))))))) (fun _ => rfl) fun _ wd28 v H29 hq => ?_
 clear H25 hd
 obtain ⟨g26, rfl, hq⟩ := hq
 replace hS : SH M X w [eO 44 tyToken ([(TToken.mk 1 [97] 0 [] false), (TToken.mk 9 [46] 0 [] false), (TToken.mk 1 [98] 0 [] false), (TToken.mk 23 [] 0 [] false), (TToken.mk 1 [99, 111, 108, 111, 114] 0 [] false), (TToken.mk 16 [] 0 [] false), (TToken.mk 4 [102, 48, 48] 0 [] true), (TToken.mk 24 [] 0 [] false)] : List TToken) g26, eO 44 tyToken y3.1 g4, Ent.gint 0] _ := hS.join [] [0, 1] rfl rfl hq
 clear hq
 refine wl_batch 9 10 [] [1, 5] [(1, [], .slice g4.a y3.1.length g4.c), (5, [], .slice g26.a 8 g26.c)] [] H29 (by decide) (by kernel_rfl) trivial fun _ wd30 H31 hb => ?_
 clear H29
 replace hS := hS.below hb
 clear hb
 refine wl_end rfl ?_
 obtain ⟨y32, hy32, hm⟩ := bindE hm
 obtain ⟨y33, hy33, hm⟩ := bindE hm
 obtain ⟨y34, hy34, hm⟩ := bindE hm
 obtain ⟨y35, hy35, hm⟩ := bindE hm
 obtain ⟨x36, hx36, hm⟩ := letE hm
 refine s_reg [(.bool y32), (.bool y33), (.bool y34), (.bool y35)] [0] [(0, [], .bool x36)] [fun wz => RetB Tryz.prog 13 ⟨[.slice g4.a y3.1.length g4.c, .slice g26.a 8 g26.c]⟩ (.bool y32) wz, fun wz => (y32 = true ∧ True → RetB Tryz.prog 22 ⟨[vS [45, 49, 46, 53, 101, 109], .agg ⟨[vU 12, vN, vI (-1500), vS [101, 109], vF]⟩]⟩ (.bool y33) wz), fun wz => ((cond y32 y33 false) = true ∧ True → RetB Tryz.prog 22 ⟨[vS [117, 114, 108, 40, 32, 120, 32, 41], .agg ⟨[vU 7, vS [120], vI 0, vN, vF]⟩]⟩ (.bool y34) wz), fun wz => ((cond (cond y32 y33 false) y34 false) = true ∧ True → RetB Tryz.prog 22 ⟨[vS [92, 54, 49, 32, 98], .agg ⟨[vU 1, vS [97, 98], vI 0, vN, vF]⟩]⟩ (.bool y35) wz)] H31 (by subst hx36; kernel_rfl) ⟨(r02_Same_ok (g_a_ := g4) (g_b_ := g26) m _ _ _ hy32 _ (s0im (s0im s0nil (hS.osl 0 rfl)) (hS.osl 1 rfl))), fun hg => law02_is_ok m _ _ _ (bT (hg.1) hy33) _ (s0gi s0nil (hS.gi 2 rfl)), fun hg => law02_is_ok m _ _ _ (bT (hg.1) hy34) _ (s0gi s0nil (hS.gi 2 rfl)), fun hg => law02_is_ok m _ _ _ (bT (hg.1) hy35) _ (s0gi s0nil (hS.gi 2 rfl)), trivial⟩ fun _ wd37 H38 hb => ?_
 clear H31
 replace hS := hS.below hb
 clear hb
 replace hS : SH M X w [Ent.gint 0] _ := hS.sel [2] rfl
 refine w_ret ?_
 obtain rfl := someE hm
 exact retR1 H38 rfl rfl ⟨_, rfl, rfl, (hS.sel [] rfl)⟩
theorem law02_alive_ok  (m : Nat)  (r : Bool) (hm : law02_alive m = some r) (w : World) (hL : S0 F0 [Ent.gint 0] w ∧ fpl [Ent.gint 0] = []) : RetB Tryz.prog 15 ⟨[]⟩ (.bool r) w := retB_of hL (Tryz.call15 _) (fun w' h => law02_alive_w F0 m    r hm w' h)

def law02_digits_S (rec_ : Int → Option (Str)) : Prop := ∀  (M : Av) (n_ : Int) (r : Str), rec_ n_ = some r → ∀ w, S0 M [] w → Calls Tryz.prog 19 ⟨[vI n_]⟩ w (fun e w' => ∃ v, e = .returned v ∧ v = vS r ∧ SH M (fpl []) w [] w')
theorem law02_digits_w (m : Nat) : ∀ (k : Nat), law02_digits_S (law02_digits_r m  k) := by
 intro k
 induction k with
 | zero => intro  M n_ r hm; exact noneE hm
 | succ k ih =>
  intro  M n_ r hm w hS
  rw [law02_digits_r] at hm
  have hS0 : SH M (fpl []) w [] w := hS
  generalize hX : fpl [] = X at hS0 ⊢
  clear hS hX
  have hS := hS0
  clear hS0
  refine calls_entryP Tryz.func19 rfl Tryz.ntmps19 rfl fun _ H => ?_
  refine s_reg [] [0] [(0, [], vI n_)] [] H (by kernel_rfl) trivial fun _ wd1 H2 hb => ?_
  clear H
  replace hS := hS.below hb
  clear hb
  refine w_seq ?_
  refine s_reg [] [0, 5] [(0, [], vI n_), (5, [], .bool (decide (n_ < 0)))] [] H2 (by kernel_rfl) trivial fun _ wd3 H4 hb => ?_
  clear H2
  replace hS := hS.below hb
  clear hb
  refine w_if H4 rfl (fun hc => ?c27) (fun hc => ?_)
  case c27 =>
   replace hm := bT hc hm
   obtain ⟨y5, hy5, hm⟩ := bindE hm
   obtain ⟨ho6, hm⟩ := chkE hm
   refine s_reg [(vS y5)] [2] [(2, [], .string ⟨⟨[45] ++ y5⟩⟩)] [fun wz => RetB Tryz.prog 19 ⟨[vI (w64 (0 - n_))]⟩ (vS y5) wz, fun _ => ln [45] + ln y5 ≤ 9223372036854775807] H4 (by kernel_rfl) ⟨(retB_of s0nil (Tryz.call19 _) (fun w' h' => ih  F0 _ _ hy5 w' h')), ho6, trivial⟩ fun _ wd7 H8 hb => ?_
   clear H4
   replace hS := hS.below hb
   clear hb
   refine w_ret ?_
   obtain rfl := someE hm
   exact retR1 H8 rfl rfl ⟨_, rfl, rfl, (hS.sel [] rfl)⟩
  replace hm := bF hc hm
  refine w_skip ?_
  refine w_seq ?_
  refine wl_start ?_
  refine wl_batch 0 4 [] [0, 13] [(0, [], vI n_), (13, [], vU (wu8 (w64 (48 + (Int.tmod n_ 10)))))] [fun _ => (10 : Int) ≠ 0] H4 (by decide) (by kernel_rfl) ⟨(by show (10 : Int) ≠ 0; decide), trivial⟩ fun _ wd9 H10 hb => ?_
  clear H4
  replace hS := hS.below hb
  clear hb
  have hd := hS.hand [] [] rfl rfl
  refine m_stp [14, 0] [(0, [], vI n_)] H10 rfl rfl rfl rfl (o_lit (T := (tI .u8)) (E := 5) (zv := vU 0) [vU (wu8 (w64 (48 + (Int.tmod n_ 10))))] ([wu8 (w64 (48 + (Int.tmod n_ 10)))] : List Int) [gL []] _ H10 hd rfl (by kernel_rfl) (by kernel_rfl) (by kernel_rfl) (by kernel_rfl) (by kernel_rfl) (by kernel_rfl) (by kernel_rfl) rfl (InnL.cons trivial InnL.nil)) (fun _ => rfl) fun _ wd13 v H14 hq => ?_
  clear H10 hd
  obtain ⟨g11, rfl, hq⟩ := hq
  replace hS : SH M X w [eO 5 (tI .u8) ([wu8 (w64 (48 + (Int.tmod n_ 10)))] : List Int) g11] _ := hS.join [] [] rfl rfl hq
  clear hq
  obtain ⟨x15, hx15, hm⟩ := letE hm
  refine wl_batch 5 7 [(.string ⟨⟨toB ([wu8 (w64 (48 + (Int.tmod n_ 10)))] : List Int)⟩⟩)] [0, 3] [(0, [], vI n_), (3, [], vS x15)] [fun wz => ∀ w', Below wz.heap.size wz w' → (convert 49 9 (.slice g11.a 1 g11.c)).run Tryz.prog w' = .ok (.string ⟨⟨toB ([wu8 (w64 (48 + (Int.tmod n_ 10)))] : List Int)⟩⟩) w'] H14 (by decide) (by subst hx15; kernel_rfl) ⟨(conv_slG (E := 5) (by kernel_rfl) (by kernel_rfl) (by kernel_rfl) (hS.osl 0 rfl)), trivial⟩ fun _ wd16 H17 hb => ?_
  clear H14
  replace hS := hS.below hb
  clear hb
  refine wl_end rfl ?_
  replace hS : SH M X w [] _ := hS.sel [] rfl
  refine w_seq ?_
  refine s_reg [] [0, 3, 17] [(0, [], vI n_), (3, [], vS x15), (17, [], .bool (decide (n_ < 10)))] [] H17 (by kernel_rfl) trivial fun _ wd18 H19 hb => ?_
  clear H17
  replace hS := hS.below hb
  clear hb
  refine w_if H19 rfl (fun hc => ?c26) (fun hc => ?_)
  case c26 =>
   replace hm := bT hc hm
   refine s_reg [] [2] [(2, [], vS x15)] [] H19 (by kernel_rfl) trivial fun _ wd20 H21 hb => ?_
   clear H19
   replace hS := hS.below hb
   clear hb
   refine w_ret ?_
   obtain rfl := someE hm
   exact retR1 H21 rfl rfl ⟨_, rfl, rfl, (hS.sel [] rfl)⟩
  replace hm := bF hc hm
  refine w_skip ?_
  obtain ⟨y22, hy22, hm⟩ := bindE hm
  obtain ⟨ho23, hm⟩ := chkE hm
  refine s_reg [(vS y22)] [2] [(2, [], .string ⟨⟨y22 ++ x15⟩⟩)] [fun _ => (10 : Int) ≠ 0, fun wz => RetB Tryz.prog 19 ⟨[vI (w64 (Int.tdiv n_ 10))]⟩ (vS y22) wz, fun _ => ln y22 + ln x15 ≤ 9223372036854775807] H19 (by kernel_rfl) ⟨(by show (10 : Int) ≠ 0; decide), (retB_of s0nil (Tryz.call19 _) (fun w' h' => ih  F0 _ _ hy22 w' h')), ho23, trivial⟩ fun _ wd24 H25 hb => ?_
  clear H19
  replace hS := hS.below hb
  clear hb
  refine w_ret ?_
  obtain rfl := someE hm
  exact retR1 H25 rfl rfl ⟨_, rfl, rfl, (hS.sel [] rfl)⟩
theorem law02_digits_ok  (m : Nat) (n_ : Int) (r : Str) (hm : law02_digits m n_ = some r) : Ret Tryz.prog 19 ⟨[vI n_]⟩ (vS r) := retP_of (Tryz.call19 _) (fun w h => law02_digits_w m   m  F0 n_ r hm w h)

theorem token_Value_w  (M : Av) (m : Nat) (s : Str) (r : Int × Bool × Int) (hm : token_Value m s = some r) (w : World) (hS : S0 M [] w) : Calls Tryz.prog 20 ⟨[vS s]⟩ w (fun e w' => ∃ v, e = .returned v ∧ v = .tuple ⟨[vI r.1, .bool r.2.1, vI r.2.2]⟩ ∧ SH M (fpl []) w [] w') := by
 rw [token_Value] at hm
 have hS0 : SH M (fpl []) w [] w := hS
 generalize hX : fpl [] = X at hS0 ⊢
 clear hS hX
 have hS := hS0
 clear hS0
 refine calls_entryP Tryz.func20 rfl Tryz.ntmps20 rfl fun _ H => ?_
 refine s_reg [] [0] [(0, [], vS s)] [] H (by kernel_rfl) trivial fun _ wd1 H2 hb => ?_
 clear H
 replace hS := hS.below hb
 clear hb
 refine w_seq ?_
 refine s_reg [] [0, 8] [(0, [], vS s), (8, [], .bool (decide (4000 < (ln s))))] [] H2 (by kernel_rfl) trivial fun _ wd3 H4 hb => ?_
 clear H2
 replace hS := hS.below hb
 clear hb
 refine w_if H4 rfl (fun hc => ?c35) (fun hc => ?_)
 case c35 =>
  replace hm := bT hc hm
  refine s_reg [] [2, 3, 4] [(2, [], vI 0), (3, [], vF), (4, [], vI 28)] [] H4 (by kernel_rfl) trivial fun _ wd5 H6 hb => ?_
  clear H4
  replace hS := hS.below hb
  clear hb
  refine w_ret ?_
  obtain rfl := someE hm
  exact retR3 H6 rfl rfl rfl rfl ⟨_, rfl, rfl, (hS.sel [] rfl)⟩
 replace hm := bF hc hm
 refine w_skip ?_
 refine w_seq ?_
 refine wl_start ?_
 refine wl_batch 0 2 [] [0, 10] [(0, [], vS s), (10, [], .agg ⟨[vS s, vI 0]⟩)] [] H4 (by decide) (by kernel_rfl) trivial fun _ wd7 H8 hb => ?_
 clear H4
 replace hS := hS.below hb
 clear hb
 have hd := hS.hand [] [] rfl rfl
 refine m_stp [11, 0] [(0, [], vS s)] H8 rfl rfl rfl rfl (o_box [vS s, vI 0] H8 hd rfl rfl) (fun _ => rfl) fun _ wd10 v H11 hq => ?_
 clear H8 hd
 obtain ⟨b9, rfl, hq⟩ := hq
 replace hS : SH M X w [eB b9 [vS s, vI 0]] _ := hS.join [] [] rfl rfl hq
 clear hq
 refine wl_batch 3 4 [] [0, 5] [(0, [], vS s), (5, [], vP b9)] [] H11 (by decide) (by kernel_rfl) trivial fun _ wd12 H13 hb => ?_
 clear H11
 replace hS := hS.below hb
 clear hb
 refine wl_end rfl ?_
 refine w_seq ?_
 obtain ⟨y14, hy14, hm⟩ := bindE hm
 refine s_reg [(.bool y14)] [0, 5, 14] [(0, [], vS s), (5, [], vP b9), (14, [], .bool (!y14))] [fun wz => RetB Tryz.prog 32 ⟨[vP b9]⟩ (.bool y14) wz] H13 (by kernel_rfl) ⟨(token_scanner_number_ok (b_c := b9) _ _ _ hy14 _ (s0ro s0nil (hS.bk 0 rfl))), trivial⟩ fun _ wd15 H16 hb => ?_
 clear H13
 replace hS := hS.below hb
 clear hb
 refine w_if H16 rfl (fun hc => ?c34) (fun hc => ?_)
 case c34 =>
  replace hm := bT hc hm
  refine s_reg [] [2, 3, 4] [(2, [], vI 0), (3, [], vF), (4, [], vI 12)] [] H16 (by kernel_rfl) trivial fun _ wd17 H18 hb => ?_
  clear H16
  replace hS := hS.below hb
  clear hb
  replace hS : SH M X w [] _ := hS.sel [] rfl
  refine w_ret ?_
  obtain rfl := someE hm
  exact retR3 H18 rfl rfl rfl rfl ⟨_, rfl, rfl, (hS.sel [] rfl)⟩
 replace hm := bF hc hm
 refine w_skip ?_
 refine w_seq ?_
 refine w_seq ?_
 refine wl_start ?_
 refine wl_batch 0 1 [] [0, 5, 15] [(0, [], vS s), (5, [], vP b9), (15, [], vP b9)] [] H16 (by decide) (by kernel_rfl) trivial fun _ wd19 H20 hb => ?_
 clear H16
 replace hS := hS.below hb
 clear hb
 obtain ⟨y21, hy21, hm⟩ := bindE hm
 have hd := hS.hand [0] [] rfl rfl
 refine m_stp [16, 0, 5] [(0, [], vS s), (5, [], vP b9)] H20 rfl rfl rfl rfl (o_callx H20 rfl rfl (token_scanner_figures_ok (b_c := b9) m _ _ _ hy21 _ _ hd)) (fun _ => rfl) fun _ wd22 v H23 hq => ?_
 clear H20 hd
 obtain ⟨rfl, hq⟩ := hq
 replace hS : SH M X w [eB b9 [vS s, vI y21.2]] _ := hS.join [0] [] rfl rfl hq
 clear hq
 refine wl_batch 2 3 [] [0, 3, 5] [(0, [], vS s), (3, [], .bool y21.1), (5, [], vP b9)] [] H23 (by decide) (by kernel_rfl) trivial fun _ wd24 H25 hb => ?_
 clear H23
 replace hS := hS.below hb
 clear hb
 refine wl_end rfl ?_
 refine s_reg [(vI y21.2)] [0, 3, 23] [(0, [], vS s), (3, [], .bool y21.1), (23, [], .bool (decide (y21.2 < (ln s))))] [fun wz => V.at1 ⟨b9, 1, none⟩ (vI y21.2) wz] H25 (by kernel_rfl) ⟨((hS.bk 0 rfl).at1 rfl), trivial⟩ fun _ wd26 H27 hb => ?_
 clear H25
 replace hS := hS.below hb
 clear hb
 replace hS : SH M X w [] _ := hS.sel [] rfl
 refine w_if H27 rfl (fun hc => ?c33) (fun hc => ?_)
 case c33 =>
  replace hm := bT hc hm
  refine s_reg [] [2, 3, 4] [(2, [], vI 0), (3, [], vF), (4, [], vI 12)] [] H27 (by kernel_rfl) trivial fun _ wd28 H29 hb => ?_
  clear H27
  replace hS := hS.below hb
  clear hb
  refine w_ret ?_
  obtain rfl := someE hm
  exact retR3 H29 rfl rfl rfl rfl ⟨_, rfl, rfl, (hS.sel [] rfl)⟩
 replace hm := bF hc hm
 refine w_skip ?_
 obtain ⟨y30, hy30, hm⟩ := bindE hm
 refine s_reg [(vI y30)] [2, 3, 4] [(2, [], vI y30), (3, [], .bool y21.1), (4, [], vI 0)] [fun wz => RetB Tryz.prog 34 ⟨[vS s]⟩ (vI y30) wz] H27 (by kernel_rfl) ⟨((token_thousandths_ok m _ _ hy30).b), trivial⟩ fun _ wd31 H32 hb => ?_
 clear H27
 replace hS := hS.below hb
 clear hb
 refine w_ret ?_
 obtain rfl := someE hm
 exact retR3 H32 rfl rfl rfl rfl ⟨_, rfl, rfl, (hS.sel [] rfl)⟩
theorem token_Value_ok  (m : Nat) (s : Str) (r : Int × Bool × Int) (hm : token_Value m s = some r) : Ret Tryz.prog 20 ⟨[vS s]⟩ (.tuple ⟨[vI r.1, .bool r.2.1, vI r.2.2]⟩) := retP_of (Tryz.call20 _) (fun w h => token_Value_w F0 m   s r hm w h)

theorem law02_TokenNumbers_w  (M : Av) (m : Nat) (n_ : Int) (zeros : Int) (r : Bool) (hm : law02_TokenNumbers m n_ zeros = some r) (w : World) (hS : S0 M [Ent.gint 0] w) : Calls Tryz.prog 7 ⟨[vI n_, vI zeros]⟩ w (fun e w' => ∃ v, e = .returned v ∧ v = .bool r ∧ SH M (fpl [Ent.gint 0]) w [] w') := by
 rw [law02_TokenNumbers] at hm
 have hS0 : SH M (fpl [Ent.gint 0]) w [Ent.gint 0] w := hS
 generalize hX : fpl [Ent.gint 0] = X at hS0 ⊢
 clear hS hX
 have hS := hS0
 clear hS0
 refine calls_entryP Tryz.func7 rfl Tryz.ntmps7 rfl fun _ H => ?_
 refine s_reg [] [0, 1] [(0, [], vI n_), (1, [], vI zeros)] [] H (by kernel_rfl) trivial fun _ wd1 H2 hb => ?_
 clear H
 replace hS := hS.below hb
 clear hb
 refine w_seq ?_
 obtain ⟨x3, hx3, hm⟩ := letE hm
 obtain ⟨x4, hx4, hm⟩ := letE hm
 refine s_reg [] [0, 1, 31] [(0, [], vI n_), (1, [], vI zeros), (31, [], .bool x4)] [] H2 (by subst hx3 hx4; kernel_rfl) trivial fun _ wd5 H6 hb => ?_
 clear H2
 replace hS := hS.below hb
 clear hb
 refine w_if H6 rfl (fun hc => ?c58) (fun hc => ?_)
 case c58 =>
  replace hm := bT hc hm
  obtain ⟨y7, hy7, hm⟩ := bindE hm
  refine s_reg [(.bool y7)] [4] [(4, [], .bool y7)] [fun wz => RetB Tryz.prog 15 ⟨[]⟩ (.bool y7) wz] H6 (by kernel_rfl) ⟨(law02_alive_ok m _ hy7 _ (s0gi s0nil (hS.gi 0 rfl))), trivial⟩ fun _ wd8 H9 hb => ?_
  clear H6
  replace hS := hS.below hb
  clear hb
  refine w_ret ?_
  obtain rfl := someE hm
  exact retR1 H9 rfl rfl ⟨_, rfl, rfl, (hS.sel [] rfl)⟩
 replace hm := bF hc hm
 refine w_skip ?_
 obtain ⟨y10, hy10, hm⟩ := bindE hm
 refine s_reg [(vS y10)] [0, 1, 5] [(0, [], vI n_), (1, [], vI zeros), (5, [], vS y10)] [fun wz => RetB Tryz.prog 19 ⟨[vI n_]⟩ (vS y10) wz] H6 (by kernel_rfl) ⟨((law02_digits_ok m _ _ hy10).b), trivial⟩ fun _ wd11 H12 hb => ?_
 clear H6
 replace hS := hS.below hb
 clear hb
 obtain ⟨ho13, hm⟩ := chkE hm
 refine s_reg [] [0, 1, 5, 6] [(0, [], vI n_), (1, [], vI zeros), (5, [], vS y10), (6, [], .string ⟨⟨sub [48, 48, 48, 48, 48] 0 zeros⟩⟩)] [fun _ => 0 ≤ zeros ∧ zeros ≤ ln [48, 48, 48, 48, 48]] H12 (by kernel_rfl) ⟨ho13, trivial⟩ fun _ wd14 H15 hb => ?_
 clear H12
 replace hS := hS.below hb
 clear hb
 obtain ⟨y16, hy16, hm⟩ := bindE hm
 refine s_reg [(.tuple ⟨[vI y16.1, .bool y16.2.1, vI y16.2.2]⟩)] [0, 1, 5, 6, 7, 8, 9] [(0, [], vI n_), (1, [], vI zeros), (5, [], vS y10), (6, [], .string ⟨⟨sub [48, 48, 48, 48, 48] 0 zeros⟩⟩), (7, [], vI y16.1), (8, [], .bool y16.2.1), (9, [], vI y16.2.2)] [fun wz => RetB Tryz.prog 20 ⟨[vS y10]⟩ (.tuple ⟨[vI y16.1, .bool y16.2.1, vI y16.2.2]⟩) wz] H15 (by kernel_rfl) ⟨((token_Value_ok m _ _ hy16).b), trivial⟩ fun _ wd17 H18 hb => ?_
 clear H15
 replace hS := hS.below hb
 clear hb
 obtain ⟨ho19, hm⟩ := chkE hm
 obtain ⟨ho20, hm⟩ := chkE hm
 obtain ⟨x21, hx21, hm⟩ := letE hm
 obtain ⟨ho22, hm⟩ := chkE hm
 obtain ⟨y23, hy23, hm⟩ := bindE hm
 refine s_reg [(.tuple ⟨[vI y23.1, .bool y23.2.1, vI y23.2.2]⟩)] [0, 1, 5, 6, 7, 8, 9, 10, 11, 12] [(0, [], vI n_), (1, [], vI zeros), (5, [], vS y10), (6, [], .string ⟨⟨sub [48, 48, 48, 48, 48] 0 zeros⟩⟩), (7, [], vI y16.1), (8, [], .bool y16.2.1), (9, [], vI y16.2.2), (10, [], vI y23.1), (11, [], .bool y23.2.1), (12, [], vI y23.2.2)] [fun _ => ln y10 + ln [46] ≤ 9223372036854775807, fun _ => ln (y10 ++ [46]) + ln (sub [48, 48, 48, 48, 48] 0 zeros) ≤ 9223372036854775807, fun _ => ln x21 + ln [48] ≤ 9223372036854775807, fun wz => RetB Tryz.prog 20 ⟨[.string ⟨⟨x21 ++ [48]⟩⟩]⟩ (.tuple ⟨[vI y23.1, .bool y23.2.1, vI y23.2.2]⟩) wz] H18 (by subst hx21; kernel_rfl) ⟨ho19, ho20, ho22, ((token_Value_ok m _ _ hy23).b), trivial⟩ fun _ wd24 H25 hb => ?_
 clear H18
 replace hS := hS.below hb
 clear hb
 obtain ⟨ho26, hm⟩ := chkE hm
 obtain ⟨x27, hx27, hm⟩ := letE hm
 obtain ⟨ho28, hm⟩ := chkE hm
 obtain ⟨y29, hy29, hm⟩ := bindE hm
 obtain ⟨ho30, hm⟩ := chkE hm
 obtain ⟨y31, hy31, hm⟩ := bindE hm
 refine s_reg [(vS y29), (.tuple ⟨[vI y31.1, .bool y31.2.1, vI y31.2.2]⟩)] [0, 5, 7, 8, 9, 10, 11, 12, 13, 14, 15] [(0, [], vI n_), (5, [], vS y10), (7, [], vI y16.1), (8, [], .bool y16.2.1), (9, [], vI y16.2.2), (10, [], vI y23.1), (11, [], .bool y23.2.1), (12, [], vI y23.2.2), (13, [], vI y31.1), (14, [], .bool y31.2.1), (15, [], vI y31.2.2)] [fun _ => ln y10 + ln (sub [48, 48, 48, 48, 48] 0 zeros) ≤ 9223372036854775807, fun _ => ln x27 + ln [101, 45] ≤ 9223372036854775807, fun wz => RetB Tryz.prog 19 ⟨[vI zeros]⟩ (vS y29) wz, fun _ => ln (x27 ++ [101, 45]) + ln y29 ≤ 9223372036854775807, fun wz => RetB Tryz.prog 20 ⟨[.string ⟨⟨(x27 ++ [101, 45]) ++ y29⟩⟩]⟩ (.tuple ⟨[vI y31.1, .bool y31.2.1, vI y31.2.2]⟩) wz] H25 (by subst hx27; kernel_rfl) ⟨ho26, ho28, ((law02_digits_ok m _ _ hy29).b), ho30, ((token_Value_ok m _ _ hy31).b), trivial⟩ fun _ wd32 H33 hb => ?_
 clear H25
 replace hS := hS.below hb
 clear hb
 refine w_seq ?_
 refine wl_start ?_
 refine wl_batch 0 1 [] [0, 7, 8, 9, 10, 11, 12, 13, 14, 15, 66] [(0, [], vI n_), (7, [], vI y16.1), (8, [], .bool y16.2.1), (9, [], vI y16.2.2), (10, [], vI y23.1), (11, [], .bool y23.2.1), (12, [], vI y23.2.2), (13, [], vI y31.1), (14, [], .bool y31.2.1), (15, [], vI y31.2.2), (66, [], vS y10)] [] H33 (by decide) (by kernel_rfl) trivial fun _ wd34 H35 hb => ?_
 clear H33
 replace hS := hS.below hb
 clear hb
 obtain ⟨y36, hy36, hm⟩ := bindE hm
 have hd := hS.hand [0] [0] rfl rfl
 refine m_stp [67, 0, 7, 8, 9, 10, 11, 12, 13, 14, 15] [(0, [], vI n_), (7, [], vI y16.1), (8, [], .bool y16.2.1), (9, [], vI y16.2.2), (10, [], vI y23.1), (11, [], .bool y23.2.1), (12, [], vI y23.2.2), (13, [], vI y31.1), (14, [], .bool y31.2.1), (15, [], vI y31.2.2)] H35 rfl rfl rfl rfl (o_callx H35 rfl rfl (token_Tokens_ok m _ _ hy36 _ _ hd)) (fun _ => rfl) fun _ wd39 v H40 hq => ?_
 clear H35 hd
 obtain ⟨g37, rfl, hq⟩ := hq
 replace hS : SH M X w [eO 44 tyToken y36.1 g37, Ent.gint 0] _ := hS.join [0] [0] rfl rfl hq
 clear hq
 refine wl_batch 2 7 [] [0, 7, 8, 9, 10, 11, 12, 13, 14, 15, 16, 17] [(0, [], vI n_), (7, [], vI y16.1), (8, [], .bool y16.2.1), (9, [], vI y16.2.2), (10, [], vI y23.1), (11, [], .bool y23.2.1), (12, [], vI y23.2.2), (13, [], vI y31.1), (14, [], .bool y31.2.1), (15, [], vI y31.2.2), (16, [], .slice g37.a y36.1.length g37.c), (17, [], vI y36.2)] [] H40 (by decide) (by kernel_rfl) trivial fun _ wd41 H42 hb => ?_
 clear H40
 replace hS := hS.below hb
 clear hb
 refine wl_end rfl ?_
 refine w_seq ?_
 obtain ⟨x43, hx43, hm⟩ := letE hm
 obtain ⟨x44, hx44, hm⟩ := letE hm
 refine s_reg [] [0, 7, 8, 10, 11, 13, 14, 16, 88] [(0, [], vI n_), (7, [], vI y16.1), (8, [], .bool y16.2.1), (10, [], vI y23.1), (11, [], .bool y23.2.1), (13, [], vI y31.1), (14, [], .bool y31.2.1), (16, [], .slice g37.a y36.1.length g37.c), (88, [], .bool x44)] [] H42 (by subst hx43 hx44; kernel_rfl) trivial fun _ wd45 H46 hb => ?_
 clear H42
 replace hS := hS.below hb
 clear hb
 refine w_if H46 rfl (fun hc => ?c57) (fun hc => ?_)
 case c57 =>
  replace hm := bT hc hm
  refine s_reg [] [4] [(4, [], vF)] [] H46 (by kernel_rfl) trivial fun _ wd47 H48 hb => ?_
  clear H46
  replace hS := hS.below hb
  clear hb
  replace hS : SH M X w [Ent.gint 0] _ := hS.sel [1] rfl
  refine w_ret ?_
  obtain rfl := someE hm
  exact retR1 H48 rfl rfl ⟨_, rfl, rfl, (hS.sel [] rfl)⟩
 replace hm := bF hc hm
 refine w_skip ?_
 obtain ⟨x49, hx49, hm⟩ := letE hm
 obtain ⟨x50, hx50, hm⟩ := letE hm
 obtain ⟨x51, hx51, hm⟩ := letE hm
 obtain ⟨ho52, hm⟩ := chkE hm
 obtain ⟨x53, hx53, hm⟩ := letE hm
 obtain ⟨y54, hy54, hm⟩ := bindE hm
 refine s_reg [(.agg ⟨[vU ((gi y36.1 (0 : Int)).Kind), .string ⟨⟨(gi y36.1 (0 : Int)).Text⟩⟩, vI ((gi y36.1 (0 : Int)).Num), .string ⟨⟨(gi y36.1 (0 : Int)).Unit⟩⟩, .bool ((gi y36.1 (0 : Int)).Flag)]⟩), (.bool y54)] [4] [(4, [], .bool (cond x53 y54 false))] [fun _ => (x51 = true ∧ True → oka g37.a ∧ 0 ≤ (0 : Int) ∧ (0 : Int) < ln y36.1), fun wz => (x51 = true ∧ True → V.atN (ab g37.a) (ao g37.a + ((0 : Int)).toNat * 5) [vU ((gi y36.1 (0 : Int)).Kind), .string ⟨⟨(gi y36.1 (0 : Int)).Text⟩⟩, vI ((gi y36.1 (0 : Int)).Num), .string ⟨⟨(gi y36.1 (0 : Int)).Unit⟩⟩, .bool ((gi y36.1 (0 : Int)).Flag)] 0 wz), fun wz => (x53 = true ∧ True → RetB Tryz.prog 15 ⟨[]⟩ (.bool y54) wz)] H46 (by subst hx49 hx50 hx51 hx53; kernel_rfl) ⟨fun hg => (hS.osl 0 rfl).oki (ho52 hg.1), fun hg => (hS.osl 0 rfl).atA (ho52 hg.1) 0 rfl, fun hg => law02_alive_ok m _ (bT (hg.1) hy54) _ (s0gi s0nil (hS.gi 1 rfl)), trivial⟩ fun _ wd55 H56 hb => ?_
 clear H46
 replace hS := hS.below hb
 clear hb
 replace hS : SH M X w [Ent.gint 0] _ := hS.sel [1] rfl
 refine w_ret ?_
 obtain rfl := someE hm
 exact retR1 H56 rfl rfl ⟨_, rfl, rfl, (hS.sel [] rfl)⟩
theorem law02_TokenNumbers_ok  (m : Nat) (n_ : Int) (zeros : Int) (r : Bool) (hm : law02_TokenNumbers m n_ zeros = some r) (w : World) (hL : S0 F0 [Ent.gint 0] w ∧ fpl [Ent.gint 0] = []) : RetB Tryz.prog 7 ⟨[vI n_, vI zeros]⟩ (.bool r) w := retB_of hL (Tryz.call7 _) (fun w' h => law02_TokenNumbers_w F0 m   n_ zeros r hm w' h)

end Go.Proofs.YtfancfogkhclfaaGreatDoor
