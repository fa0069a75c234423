/-
  What the Go functions compute, as Lean functions, and that a call returns just that. Printed by a program.
-/
import Derived.Test.YtfancfogkhclfaaGreatDoorRows
import Derived.Test.YtfancfogkhclfaaGreatDoorCL
import Derived.Test.YtfancfogkhclfaaGreatDoorX
import Derived.Test.YtfancfogkhclfaaGreatDoorM
import Derived.Test.YtfancfogkhclfaaGreatDoorW02Ra
set_option linter.unusedVariables false
set_option maxRecDepth 20000
set_option maxHeartbeats 4000000
namespace Go.Proofs.YtfancfogkhclfaaGreatDoor
open Go.V Go.RowKit

theorem token_read_2_w {b_tell_c0 : Nat} {g_tell_c0 : Gh} (M : Av) (m : Nat) (s : Str) (tell_c0 : List TA2_int) (r : Int × (List TA2_int)) (hm : token_read_2 m s tell_c0 = some r) (w : World) (hS : S0 M [eB b_tell_c0 [vL g_tell_c0 tell_c0], eO 39 tyA2_int tell_c0 g_tell_c0, Ent.gint 0] w) : Calls Tryz.prog 24 ⟨[vS s, .func (.func 28) ⟨[]⟩ ⟨[vP b_tell_c0]⟩]⟩ w (fun e w' => ∃ v, e = .returned v ∧ ∃ (g901 : Gh), v = vI r.1 ∧ SH M (fpl [eB b_tell_c0 [vL g_tell_c0 tell_c0], eO 39 tyA2_int tell_c0 g_tell_c0, Ent.gint 0]) w [eB b_tell_c0 [.slice g901.a r.2.length g901.c], eO 39 tyA2_int r.2 g901] w') := by
 rw [token_read_2] at hm
 have hS0 : SH M (fpl [eB b_tell_c0 [vL g_tell_c0 tell_c0], eO 39 tyA2_int tell_c0 g_tell_c0, Ent.gint 0]) w [eB b_tell_c0 [vL g_tell_c0 tell_c0], eO 39 tyA2_int tell_c0 g_tell_c0, Ent.gint 0] w := hS
 generalize hX : fpl [eB b_tell_c0 [vL g_tell_c0 tell_c0], eO 39 tyA2_int tell_c0 g_tell_c0, Ent.gint 0] = X at hS0 ⊢
 clear hS hX
 have hS := hS0
 clear hS0
 refine calls_entryP Tryz.func24 rfl Tryz.ntmps24 rfl fun _ H => ?_
 refine s_reg [] [0, 1] [(0, [], vS s), (1, [], .func (.func 28) ⟨[]⟩ ⟨[vP b_tell_c0]⟩)] [] H (by kernel_rfl) trivial fun _ wd1 H2 hb => ?_
 clear H
 replace hS := hS.below hb
 clear hb
 obtain ⟨y3, hy3, hm⟩ := letE hm
 refine s_reg [(.tuple ⟨[.string ⟨⟨y3.1⟩⟩, vI y3.2]⟩)] [0, 1, 5] [(0, [], .string ⟨⟨y3.1⟩⟩), (1, [], .func (.func 28) ⟨[]⟩ ⟨[vP b_tell_c0]⟩), (5, [], vI y3.2)] [fun wz => RetB Tryz.prog 16 ⟨[vS s]⟩ (.tuple ⟨[.string ⟨⟨y3.1⟩⟩, vI y3.2]⟩) wz] H2 (by subst hy3; kernel_rfl) ⟨((by rw [hy3]; exact (cleanF_ok _).b)), trivial⟩ fun _ wd4 H5 hb => ?_
 clear H2
 replace hS := hS.below hb
 clear hb
 refine w_seq ?_
 refine s_reg [] [0, 1, 5, 16] [(0, [], .string ⟨⟨y3.1⟩⟩), (1, [], .func (.func 28) ⟨[]⟩ ⟨[vP b_tell_c0]⟩), (5, [], vI y3.2), (16, [], .bool (y3.2 != 0))] [] H5 (by kernel_rfl) trivial fun _ wd6 H7 hb => ?_
 clear H5
 replace hS := hS.below hb
 clear hb
 refine w_if H7 rfl (fun hc => ?c69) (fun hc => ?_)
 case c69 =>
  replace hm := bT hc hm
  refine s_reg [] [4] [(4, [], vI y3.2)] [] H7 (by kernel_rfl) trivial fun _ wd8 H9 hb => ?_
  clear H7
  replace hS := hS.below hb
  clear hb
  refine w_ret ?_
  obtain rfl := someE hm
  exact retR1 H9 rfl rfl ⟨_, rfl, g_tell_c0, rfl, (hS.sel [0, 1] rfl)⟩
 replace hm := bF hc hm
 refine w_skip ?_
 refine w_seq ?_
 refine wl_start ?_
 refine wl_batch 0 2 [] [0, 1, 19] [(0, [], .string ⟨⟨y3.1⟩⟩), (1, [], .func (.func 28) ⟨[]⟩ ⟨[vP b_tell_c0]⟩), (19, [], .agg ⟨[.string ⟨⟨y3.1⟩⟩, vI 0]⟩)] [] H7 (by decide) (by kernel_rfl) trivial fun _ wd10 H11 hb => ?_
 clear H7
 replace hS := hS.below hb
 clear hb
 have hd := hS.hand [] [0, 1, 2] rfl rfl
 refine m_stp [20, 0, 1] [(0, [], .string ⟨⟨y3.1⟩⟩), (1, [], .func (.func 28) ⟨[]⟩ ⟨[vP b_tell_c0]⟩)] H11 rfl rfl rfl rfl (o_box [.string ⟨⟨y3.1⟩⟩, vI 0] H11 hd rfl rfl) (fun _ => rfl) fun _ wd13 v H14 hq => ?_
 clear H11 hd
 obtain ⟨b12, rfl, hq⟩ := hq
 replace hS : SH M X w [eB b12 [.string ⟨⟨y3.1⟩⟩, vI 0], eB b_tell_c0 [vL g_tell_c0 tell_c0], eO 39 tyA2_int tell_c0 g_tell_c0, Ent.gint 0] _ := hS.join [] [0, 1, 2] rfl rfl hq
 clear hq
 refine wl_batch 3 4 [] [0, 1, 6] [(0, [], .string ⟨⟨y3.1⟩⟩), (1, [], .func (.func 28) ⟨[]⟩ ⟨[vP b_tell_c0]⟩), (6, [], vP b12)] [] H14 (by decide) (by kernel_rfl) trivial fun _ wd15 H16 hb => ?_
 clear H14
 replace hS := hS.below hb
 clear hb
 refine wl_end rfl ?_
 refine w_seq ?_
 refine wl_start ?_
 refine wl_batch 0 1 [] [0, 1, 6, 21] [(0, [], .string ⟨⟨y3.1⟩⟩), (1, [], .func (.func 28) ⟨[]⟩ ⟨[vP b_tell_c0]⟩), (6, [], vP b12), (21, [], vP b12)] [] H16 (by decide) (by kernel_rfl) trivial fun _ wd17 H18 hb => ?_
 clear H16
 replace hS := hS.below hb
 clear hb
 obtain ⟨y19, hy19, hm⟩ := bindE hm
 have hd := hS.hand [0, 3] [1, 2, 3] rfl rfl
 refine m_stp [22, 0, 1, 6] [(0, [], .string ⟨⟨y3.1⟩⟩), (1, [], .func (.func 28) ⟨[]⟩ ⟨[vP b_tell_c0]⟩), (6, [], vP b12)] H18 rfl rfl rfl rfl (o_callx H18 rfl rfl (token_scanner_comments_ok (b_c := b12) m _ _ _ hy19 _ _ hd)) (fun _ => rfl) fun _ wd20 v H21 hq => ?_
 clear H18 hd
 obtain ⟨rfl, hq⟩ := hq
 replace hS : SH M X w [eB b12 [.string ⟨⟨y3.1⟩⟩, vI y19], eB b_tell_c0 [vL g_tell_c0 tell_c0], eO 39 tyA2_int tell_c0 g_tell_c0, Ent.gint 0] _ := hS.join [0, 3] [1, 2, 3] rfl rfl hq
 clear hq
 refine wl_end rfl ?_
 refine s_reg [] [0, 1, 6, 7] [(0, [], .string ⟨⟨y3.1⟩⟩), (1, [], .func (.func 28) ⟨[]⟩ ⟨[vP b_tell_c0]⟩), (6, [], vP b12), (7, [], vI 0)] [] H21 (by kernel_rfl) trivial fun _ wd22 H23 hb => ?_
 clear H21
 replace hS := hS.below hb
 clear hb
 obtain ⟨z24, hz, hm_z24⟩ := bindE hm
 refine w_cut (fun a' w' => ∃ s_z24 : Int × (List TA2_int), z24 = Sum.inr s_z24 ∧ ∃ (g65 : Gh), Fr 50 [] a' ∧ SH M X w [eB b12 [.string ⟨⟨y3.1⟩⟩, vI s_z24.1], eB b_tell_c0 [.slice g65.a s_z24.2.length g65.c], eO 39 tyA2_int s_z24.2 g65, Ent.gint 0] w') ?_ ?_
 ·replace hm := hz
  refine w_block ?_
  refine w_loop (fun kk a' w' => ∃ (v25 : Int) (v26 : Int) (v27 : List TA2_int) (g28 : Gh), token_read_2_L1 m y3 kk v25 v26 v27 = some _ ∧ Fr 50 [(0, [], .string ⟨⟨y3.1⟩⟩), (1, [], .func (.func 28) ⟨[]⟩ ⟨[vP b_tell_c0]⟩), (6, [], vP b12), (7, [], vI v25)] a' ∧ SH M X w [eB b12 [.string ⟨⟨y3.1⟩⟩, vI v26], eB b_tell_c0 [vL g28 v27], eO 39 tyA2_int v27 g28, Ent.gint 0] w') ⟨_, 0, y19, tell_c0, g_tell_c0, hm, FrG.keep (ks := [0, 1, 6, 7]) H23 (by kernel_rfl), hS⟩ ?_
  clear hm H23 hS
  rintro kk _ wd64 ⟨v25, v26, v27, g28, hm, H, hS⟩
  cases kk with
  | zero => exact noneE hm
  | succ kk =>
   rw [token_read_2_L1] at hm
   refine w_seq ?_
   refine s_reg [(vI v26)] [0, 1, 6, 7, 29] [(0, [], .string ⟨⟨y3.1⟩⟩), (1, [], .func (.func 28) ⟨[]⟩ ⟨[vP b_tell_c0]⟩), (6, [], vP b12), (7, [], vI v25), (29, [], .bool (decide (v26 < (ln y3.1))))] [fun wz => V.at1 ⟨b12, 1, none⟩ (vI v26) wz] H (by kernel_rfl) ⟨((hS.bk 0 rfl).at1 rfl), trivial⟩ fun _ wd29 H30 hb => ?_
   clear H
   replace hS := hS.below hb
   clear hb
   refine w_if H30 rfl (fun hc => ?_) (fun hc => ?c63)
   case c63 =>
    replace hm := bF hc hm
    refine w_exit rfl ?_
    obtain rfl := someE hm
    exact ⟨_, rfl, g28, FrG.keep (ks := []) H30 (by kernel_rfl), hS⟩
   replace hm := bT hc hm
   refine w_skip ?_
   refine w_block ?_
   refine w_seq ?_
   refine s_reg [] [0, 1, 6, 7] [(0, [], .string ⟨⟨y3.1⟩⟩), (1, [], .func (.func 28) ⟨[]⟩ ⟨[vP b_tell_c0]⟩), (6, [], vP b12), (7, [], vI (w64 (v25 + 1)))] [] H30 (by kernel_rfl) trivial fun _ wd31 H32 hb => ?_
   clear H30
   replace hS := hS.below hb
   clear hb
   refine s_reg [] [0, 1, 6, 7, 33] [(0, [], .string ⟨⟨y3.1⟩⟩), (1, [], .func (.func 28) ⟨[]⟩ ⟨[vP b_tell_c0]⟩), (6, [], vP b12), (7, [], vI (w64 (v25 + 1))), (33, [], .bool (decide (1500 < (w64 (v25 + 1)))))] [] H32 (by kernel_rfl) trivial fun _ wd33 H34 hb => ?_
   clear H32
   replace hS := hS.below hb
   clear hb
   refine w_if H34 rfl (fun hc => ?c62) (fun hc => ?_)
   case c62 =>
    replace hm := bT hc hm
    refine s_reg [] [4] [(4, [], vI 4)] [] H34 (by kernel_rfl) trivial fun _ wd35 H36 hb => ?_
    clear H34
    replace hS := hS.below hb
    clear hb
    refine w_ret ?_
    obtain rfl := someE hm
    have hm := hm_z24
    obtain rfl := someE hm
    exact retR1 H36 rfl rfl ⟨_, rfl, g28, rfl, (hS.sel [1, 2] rfl)⟩
   replace hm := bF hc hm
   refine w_skip ?_
   refine s_reg [(vI v26)] [0, 1, 6, 7, 8] [(0, [], .string ⟨⟨y3.1⟩⟩), (1, [], .func (.func 28) ⟨[]⟩ ⟨[vP b_tell_c0]⟩), (6, [], vP b12), (7, [], vI (w64 (v25 + 1))), (8, [], vI v26)] [fun wz => V.at1 ⟨b12, 1, none⟩ (vI v26) wz] H34 (by kernel_rfl) ⟨((hS.bk 0 rfl).at1 rfl), trivial⟩ fun _ wd37 H38 hb => ?_
   clear H34
   replace hS := hS.below hb
   clear hb
   refine w_seq ?_
   refine wl_start ?_
   refine wl_batch 0 1 [] [0, 1, 6, 7, 8, 38] [(0, [], .string ⟨⟨y3.1⟩⟩), (1, [], .func (.func 28) ⟨[]⟩ ⟨[vP b_tell_c0]⟩), (6, [], vP b12), (7, [], vI (w64 (v25 + 1))), (8, [], vI v26), (38, [], vP b12)] [] H38 (by decide) (by kernel_rfl) trivial fun _ wd39 H40 hb => ?_
   clear H38
   replace hS := hS.below hb
   clear hb
   obtain ⟨y41, hy41, hm⟩ := bindE hm
   have hd := hS.hand [0] [1, 2, 3] rfl rfl
   refine m_stp [39, 0, 1, 6, 7, 8] [(0, [], .string ⟨⟨y3.1⟩⟩), (1, [], .func (.func 28) ⟨[]⟩ ⟨[vP b_tell_c0]⟩), (6, [], vP b12), (7, [], vI (w64 (v25 + 1))), (8, [], vI v26)] H40 rfl rfl rfl rfl (o_callx H40 rfl rfl (token_scanner_next_ok (b_c := b12) m _ _ _ hy41 _ _ hd)) (fun _ => rfl) fun _ wd42 v H43 hq => ?_
   clear H40 hd
   obtain ⟨rfl, hq⟩ := hq
   replace hS : SH M X w [eB b12 [.string ⟨⟨y3.1⟩⟩, vI y41.2], eB b_tell_c0 [vL g28 v27], eO 39 tyA2_int v27 g28, Ent.gint 0] _ := hS.join [0] [1, 2, 3] rfl rfl hq
   clear hq
   have hd := hS.hand [] [0, 1, 2, 3] rfl rfl
   refine m_stp [9, 0, 1, 6, 7, 8, 39] [(0, [], .string ⟨⟨y3.1⟩⟩), (1, [], .func (.func 28) ⟨[]⟩ ⟨[vP b_tell_c0]⟩), (6, [], vP b12), (7, [], vI (w64 (v25 + 1))), (8, [], vI v26), (39, [], .agg ⟨[vU y41.1.Kind, .string ⟨⟨y41.1.Text⟩⟩, vI y41.1.Num, .string ⟨⟨y41.1.Unit⟩⟩, .bool y41.1.Flag]⟩)] H43 rfl rfl rfl rfl (o_alloc [vU 0, vN, vI 0, vN, vF] (z := .agg ⟨[vU 0, vN, vI 0, vN, vF]⟩) hd (by kernel_rfl) rfl) (fun _ => rfl) fun _ wd45 v H46 hq => ?_
   clear H43 hd
   obtain ⟨b44, rfl, hq⟩ := hq
   replace hS : SH M X w [eB b44 [vU 0, vN, vI 0, vN, vF], eB b12 [.string ⟨⟨y3.1⟩⟩, vI y41.2], eB b_tell_c0 [vL g28 v27], eO 39 tyA2_int v27 g28, Ent.gint 0] _ := hS.join [] [0, 1, 2, 3] rfl rfl hq
   clear hq
   have hd := hS.hand [0] [1, 2, 3, 4] rfl rfl
   refine m_stp0 [0, 1, 6, 7, 8, 9] [(0, [], .string ⟨⟨y3.1⟩⟩), (1, [], .func (.func 28) ⟨[]⟩ ⟨[vP b_tell_c0]⟩), (6, [], vP b12), (7, [], vI (w64 (v25 + 1))), (8, [], vI v26), (9, [], vP b44)] H46 rfl rfl rfl (o_store [vU y41.1.Kind, .string ⟨⟨y41.1.Text⟩⟩, vI y41.1.Num, .string ⟨⟨y41.1.Unit⟩⟩, .bool y41.1.Flag] H46 hd rfl rfl (by kernel_rfl) rfl rfl rfl) rfl fun _ wd47 H48 hq => ?_
   clear H46 hd
   obtain ⟨_, hq⟩ := hq
   replace hS : SH M X w [eB b44 [vU y41.1.Kind, .string ⟨⟨y41.1.Text⟩⟩, vI y41.1.Num, .string ⟨⟨y41.1.Unit⟩⟩, .bool y41.1.Flag], eB b12 [.string ⟨⟨y3.1⟩⟩, vI y41.2], eB b_tell_c0 [vL g28 v27], eO 39 tyA2_int v27 g28, Ent.gint 0] _ := hS.join [0] [1, 2, 3, 4] rfl rfl hq
   clear hq
   refine wl_end rfl ?_
   obtain ⟨y50, hy50, hm⟩ := bindE hm
   refine s_drawS (base := [(0, [], .string ⟨⟨y3.1⟩⟩), (1, [], .func (.func 28) ⟨[]⟩ ⟨[vP b_tell_c0]⟩), (6, [], vP b12), (7, [], vI (w64 (v25 + 1))), (8, [], vI v26), (9, [], vP b44)]) (L := [eB b44 [vU y41.1.Kind, .string ⟨⟨y41.1.Text⟩⟩, vI y41.1.Num, .string ⟨⟨y41.1.Unit⟩⟩, .bool y41.1.Flag], eB b12 [.string ⟨⟨y3.1⟩⟩, vI y41.2], eB b_tell_c0 [vL g28 v27], eO 39 tyA2_int v27 g28, Ent.gint 0]) 8 5 (fun yg49 => [.func (.func 28) ⟨[]⟩ ⟨[vP b_tell_c0]⟩, .agg ⟨[vU y41.1.Kind, .string ⟨⟨y41.1.Text⟩⟩, vI y41.1.Num, .string ⟨⟨y41.1.Unit⟩⟩, .bool y41.1.Flag]⟩, vI v26, vP b12, vP b12, vA b12 1, vI y41.2, .tuple ⟨[]⟩]) (fun yg49 => [[], [], [], [], [], [], [], [eB b_tell_c0 [.slice (yg49 7 0).a y50.length (yg49 7 0).c], eO 39 tyA2_int y50 (yg49 7 0)]]) [[10, 11], [8], [], [9], [9], [9], [9], [10, 11]] [[], [], [], [], [], [], [], [10, 11]] [[0], [1], [2], [3], [3, 4], [3, 4, 5], [3, 4, 5, 6], [0, 1, 2, 3, 4, 5, 6, 7]] [] (FrG.keep (ks := [0, 1, 6, 7, 8, 9]) H48 (by kernel_rfl)) (fun _ _ h => by cases h) (by kernel_rfl) hS (by kernel_rfl) rfl rfl (by kernel_rfl) (by kernel_rfl) (by kernel_rfl) (gd_none (by kernel_rfl) _ _) ?hloc_yg49 ?hstep_yg49 fun _ wd53 yg49 H54 hv hS => ?hK_yg49
   case hloc_yg49 => exact ⟨(fun _ _ _ _ => ⟨rfl, rfl⟩), (fun _ _ _ _ => ⟨rfl, rfl⟩), (fun _ _ _ _ => ⟨rfl, rfl⟩), (fun _ _ _ _ => ⟨rfl, rfl⟩), (fun _ _ _ _ => ⟨rfl, rfl⟩), (fun _ _ _ _ => ⟨rfl, rfl⟩), (fun _ _ _ _ => ⟨rfl, rfl⟩), (fun yg49 i g hi => by have h7 : updC yg49 i g 7 = yg49 7 := updC_out hi rfl; exact ⟨(show (.tuple ⟨[]⟩ : Value) = .tuple ⟨[]⟩ by simp only []), (show ([eB b_tell_c0 [.slice ((updC yg49 i g) 7 0).a y50.length ((updC yg49 i g) 7 0).c], eO 39 tyA2_int y50 ((updC yg49 i g) 7 0)] : List Ent) = [eB b_tell_c0 [.slice (yg49 7 0).a y50.length (yg49 7 0).c], eO 39 tyA2_int y50 (yg49 7 0)] by simp only [h7])⟩), trivial⟩
   case hstep_yg49 =>
    refine ⟨?_, ?_, ?_, ?_, ?_, ?_, ?_, ?_, trivial⟩
    ·intro o ho a w yg49 M Hb hv hO hS
     obtain rfl := Option.some.inj ho
     exact Stp.mono (o_evs [] (.func (.func 28) ⟨[]⟩ ⟨[vP b_tell_c0]⟩) none [] Hb rfl (by kernel_rfl) (fun q e => by cases e)) fun _ _ hq => ⟨gL [], fun _ _ => hq.1, (hS.below hq.2.below).sel [0, 1] rfl⟩
    ·intro o ho a w yg49 M Hb hv hO hS
     obtain rfl := Option.some.inj ho
     exact Stp.mono (o_evs [(.agg ⟨[vU y41.1.Kind, .string ⟨⟨y41.1.Text⟩⟩, vI y41.1.Num, .string ⟨⟨y41.1.Unit⟩⟩, .bool y41.1.Flag]⟩)] (.agg ⟨[vU y41.1.Kind, .string ⟨⟨y41.1.Text⟩⟩, vI y41.1.Num, .string ⟨⟨y41.1.Unit⟩⟩, .bool y41.1.Flag]⟩) (some (fun wz => V.atN b44 0 [vU y41.1.Kind, .string ⟨⟨y41.1.Text⟩⟩, vI y41.1.Num, .string ⟨⟨y41.1.Unit⟩⟩, .bool y41.1.Flag] 0 wz)) [] Hb rfl (by kernel_rfl) (fun q e => by cases e; exact ((hS.bk 0 rfl).atD rfl))) fun _ _ hq => ⟨gL [], fun _ _ => hq.1, (hS.below hq.2.below).sel [0] rfl⟩
    ·intro o ho a w yg49 M Hb hv hO hS
     obtain rfl := Option.some.inj ho
     exact Stp.mono (o_evs [] (vI v26) none [] Hb rfl (by kernel_rfl) (fun q e => by cases e)) fun _ _ hq => ⟨gL [], fun _ _ => hq.1, (hS.below hq.2.below).sel [] rfl⟩
    ·intro o ho a w yg49 M Hb hv hO hS
     obtain rfl := Option.some.inj ho
     exact Stp.mono (o_evs [] (vP b12) none [] Hb rfl (by kernel_rfl) (fun q e => by cases e)) fun _ _ hq => ⟨gL [], fun _ _ => hq.1, (hS.below hq.2.below).sel [0] rfl⟩
    ·intro o ho a w yg49 M Hb hv hO hS
     obtain rfl := Option.some.inj ho
     exact Stp.mono (o_evs [] (vP b12) none [] ((Hb).add (hv 3 (by decide) (by decide) 43 rfl)) rfl (by kernel_rfl) (fun q e => by cases e)) fun _ _ hq => ⟨gL [], fun _ _ => hq.1, (hS.below hq.2.below).sel [0] rfl⟩
    ·intro o ho a w yg49 M Hb hv hO hS
     obtain rfl := Option.some.inj ho
     exact Stp.mono (o_evs [] (vA b12 1) none [] ((Hb).add (hv 4 (by decide) (by decide) 44 rfl)) rfl (by kernel_rfl) (fun q e => by cases e)) fun _ _ hq => ⟨gL [], fun _ _ => hq.1, (hS.below hq.2.below).sel [0] rfl⟩
    ·intro o ho a w yg49 M Hb hv hO hS
     obtain rfl := Option.some.inj ho
     exact Stp.mono (o_evs [(vI y41.2)] (vI y41.2) (some (fun wz => V.at1 ⟨b12, 1, none⟩ (vI y41.2) wz)) [] ((Hb).add (hv 5 (by decide) (by decide) 45 rfl)) rfl (by kernel_rfl) (fun q e => by cases e; exact ((hS.bk 0 rfl).at1 rfl))) fun _ _ hq => ⟨gL [], fun _ _ => hq.1, (hS.below hq.2.below).sel [0] rfl⟩
    ·intro o ho a w yg49 M Hb hv hO hS0
     obtain rfl := Option.some.inj ho
     have H : Fr 50 ([(46, [], vI y41.2), (42, [], vI v26), (41, [], .agg ⟨[vU y41.1.Kind, .string ⟨⟨y41.1.Text⟩⟩, vI y41.1.Num, .string ⟨⟨y41.1.Unit⟩⟩, .bool y41.1.Flag]⟩), (40, [], .func (.func 28) ⟨[]⟩ ⟨[vP b_tell_c0]⟩)] ++ [(0, [], .string ⟨⟨y3.1⟩⟩), (1, [], .func (.func 28) ⟨[]⟩ ⟨[vP b_tell_c0]⟩), (6, [], vP b12), (7, [], vI (w64 (v25 + 1))), (8, [], vI v26), (9, [], vP b44)]) _ := ((((Hb).add (hv 0 (by decide) (by decide) 40 rfl)).add (hv 1 (by decide) (by decide) 41 rfl)).add (hv 2 (by decide) (by decide) 42 rfl)).add (hv 6 (by decide) (by decide) 46 rfl)
     obtain ⟨X, hX⟩ : ∃ X, X = fpl [eB b_tell_c0 [vL g28 v27], eO 39 tyA2_int v27 g28] := ⟨_, rfl⟩
     have hS : SH M X w [eB b_tell_c0 [vL g28 v27], eO 39 tyA2_int v27 g28] w := by rw [hX]; exact hS0
     have hd := hS.hand [0, 1] [] rfl rfl
     refine Stp.mono (o_callx H rfl rfl (token_Spans_1_ok (b_u0 := b_tell_c0) (g_u0 := g28) _ _ _ _ _ hy50 _ _ hd)) ?_
     rintro v w2 hq
     obtain ⟨g51, rfl, hq⟩ := hq
     replace hS : SH M X w [eB b_tell_c0 [vL g51 y50], eO 39 tyA2_int y50 g51] _ := hS.join [0, 1] [] rfl rfl hq
     clear hq
     rw [hX] at hS
     exact ⟨gL [g51], fun _ _ => rfl, hS.sel [0, 1] rfl⟩
   have H55 : Fr 50 [(0, [], .string ⟨⟨y3.1⟩⟩), (1, [], .func (.func 28) ⟨[]⟩ ⟨[vP b_tell_c0]⟩), (6, [], vP b12), (7, [], vI (w64 (v25 + 1)))] _ := (FrG.keep (ks := [0, 1, 6, 7]) H54 (by kernel_rfl))
   replace hS : SH M X w [eB b_tell_c0 [.slice (yg49 7 0).a y50.length (yg49 7 0).c], eO 39 tyA2_int y50 (yg49 7 0), eB b44 [vU y41.1.Kind, .string ⟨⟨y41.1.Text⟩⟩, vI y41.1.Num, .string ⟨⟨y41.1.Unit⟩⟩, .bool y41.1.Flag], eB b12 [.string ⟨⟨y3.1⟩⟩, vI y41.2], Ent.gint 0] _ := hS
   clear hv H54
   generalize yg49 7 0 = g56 at H55 hS
   replace hS : SH M X w [eB b_tell_c0 [vL g56 y50], eO 39 tyA2_int y50 g56, eB b12 [.string ⟨⟨y3.1⟩⟩, vI y41.2], Ent.gint 0] _ := hS.sel [0, 1, 3, 4] rfl
   refine wl_start ?_
   refine wl_batch 0 1 [] [0, 1, 6, 7, 48] [(0, [], .string ⟨⟨y3.1⟩⟩), (1, [], .func (.func 28) ⟨[]⟩ ⟨[vP b_tell_c0]⟩), (6, [], vP b12), (7, [], vI (w64 (v25 + 1))), (48, [], vP b12)] [] H55 (by decide) (by kernel_rfl) trivial fun _ wd57 H58 hb => ?_
   clear H55
   replace hS := hS.below hb
   clear hb
   obtain ⟨y59, hy59, hm⟩ := bindE hm
   have hd := hS.hand [2, 3] [0, 1, 3] rfl rfl
   refine m_stp [49, 0, 1, 6, 7] [(0, [], .string ⟨⟨y3.1⟩⟩), (1, [], .func (.func 28) ⟨[]⟩ ⟨[vP b_tell_c0]⟩), (6, [], vP b12), (7, [], vI (w64 (v25 + 1)))] H58 rfl rfl rfl rfl (o_callx H58 rfl rfl (token_scanner_comments_ok (b_c := b12) m _ _ _ hy59 _ _ hd)) (fun _ => rfl) fun _ wd60 v H61 hq => ?_
   clear H58 hd
   obtain ⟨rfl, hq⟩ := hq
   replace hS : SH M X w [eB b12 [.string ⟨⟨y3.1⟩⟩, vI y59], eB b_tell_c0 [vL g56 y50], eO 39 tyA2_int y50 g56, Ent.gint 0] _ := hS.join [2, 3] [0, 1, 3] rfl rfl hq
   clear hq
   refine wl_end rfl ?_
   exact ⟨_, Nat.lt_succ_self _, w64 (v25 + 1), y59, y50, g56, hm, FrG.keep (ks := [0, 1, 6, 7]) H61 (by kernel_rfl), hS⟩
 ·rintro _ wd68 ⟨s_z24, hz, g65, H, hS⟩
  subst hz
  replace hm := sumR hm_z24
  replace hS : SH M X w [eB b_tell_c0 [.slice g65.a s_z24.2.length g65.c], eO 39 tyA2_int s_z24.2 g65, Ent.gint 0] _ := hS.sel [1, 2, 3] rfl
  refine s_reg [] [4] [(4, [], vI 0)] [] H (by kernel_rfl) trivial fun _ wd66 H67 hb => ?_
  clear H
  replace hS := hS.below hb
  clear hb
  refine w_ret ?_
  obtain rfl := someE hm
  exact retR1 H67 rfl rfl ⟨_, rfl, g65, rfl, (hS.sel [0, 1] rfl)⟩
theorem token_read_2_ok {b_tell_c0 : Nat} {g_tell_c0 : Gh} (m : Nat) (s : Str) (tell_c0 : List TA2_int) (r : Int × (List TA2_int)) (hm : token_read_2 m s tell_c0 = some r) (M : Av) (w : World) (hS : S0 M [eB b_tell_c0 [vL g_tell_c0 tell_c0], eO 39 tyA2_int tell_c0 g_tell_c0, Ent.gint 0] w) : DoesX Tryz.prog 24 ⟨[vS s, .func (.func 28) ⟨[]⟩ ⟨[vP b_tell_c0]⟩]⟩ w (fun v w' => ∃ (g901 : Gh), v = vI r.1 ∧ SH M (fpl [eB b_tell_c0 [vL g_tell_c0 tell_c0], eO 39 tyA2_int tell_c0 g_tell_c0, Ent.gint 0]) w [eB b_tell_c0 [.slice g901.a r.2.length g901.c], eO 39 tyA2_int r.2 g901] w') := ⟨Tryz.call24 _, token_read_2_w M m   s tell_c0 r hm w hS⟩

theorem token_Spans_w  (M : Av) (m : Nat) (s : Str) (r : (List TA2_int) × Int) (hm : token_Spans m s = some r) (w : World) (hS : S0 M [Ent.gint 0] w) : Calls Tryz.prog 11 ⟨[vS s]⟩ w (fun e w' => ∃ v, e = .returned v ∧ ∃ (g901 : Gh), v = .tuple ⟨[.slice g901.a r.1.length g901.c, vI r.2]⟩ ∧ SH M (fpl [Ent.gint 0]) w [eO 39 tyA2_int r.1 g901] w') := by
 rw [token_Spans] at hm
 have hS0 : SH M (fpl [Ent.gint 0]) w [Ent.gint 0] w := hS
 generalize hX : fpl [Ent.gint 0] = X at hS0 ⊢
 clear hS hX
 have hS := hS0
 clear hS0
 refine calls_entryP Tryz.func11 rfl Tryz.ntmps11 rfl fun _ H => ?_
 refine s_reg [] [0] [(0, [], vS s)] [] H (by kernel_rfl) trivial fun _ wd1 H2 hb => ?_
 clear H
 replace hS := hS.below hb
 clear hb
 refine w_seq ?_
 refine wl_start ?_
 have hd := hS.hand [] [0] rfl rfl
 refine m_stp [4, 0] [(0, [], vS s)] H2 rfl rfl rfl rfl (o_alloc [vO] (z := vO) hd (by kernel_rfl) rfl) (fun _ => rfl) fun _ wd4 v H5 hq => ?_
 clear H2 hd
 obtain ⟨b3, rfl, hq⟩ := hq
 replace hS : SH M X w [eB b3 [vO], Ent.gint 0] _ := hS.join [] [0] rfl rfl hq
 clear hq
 refine wl_end rfl ?_
 refine w_seq ?_
 refine w_seq ?_
 refine wl_start ?_
 refine wl_batch 0 2 [] [4, 6, 7] [(4, [], vP b3), (6, [], vS s), (7, [], .func (.func 28) ⟨[]⟩ ⟨[vP b3]⟩)] [] H5 (by decide) (by kernel_rfl) trivial fun _ wd6 H7 hb => ?_
 clear H5
 replace hS := hS.below hb
 clear hb
 replace hS : SH M X w [eO 39 tyA2_int ([] : List TA2_int) (.nil), eB b3 [vO], Ent.gint 0] _ := hS.addNil 39 tyA2_int
 obtain ⟨y9, hy9, hm⟩ := bindE hm
 have hd := hS.hand [1, 0, 2] [2] rfl rfl
 refine m_stp [8, 4] [(4, [], vP b3)] H7 rfl rfl rfl rfl (o_callx H7 rfl rfl (token_read_2_ok (b_tell_c0 := b3) (g_tell_c0 := Gh.nil) m _ _ _ hy9 _ _ hd)) (fun _ => rfl) fun _ wd12 v H13 hq => ?_
 clear H7 hd
 obtain ⟨g10, rfl, hq⟩ := hq
 replace hS : SH M X w [eB b3 [.slice g10.a y9.2.length g10.c], eO 39 tyA2_int y9.2 g10, Ent.gint 0] _ := hS.join [1, 0, 2] [2] rfl rfl hq
 clear hq
 refine wl_batch 3 4 [] [4, 5] [(4, [], vP b3), (5, [], vI y9.1)] [] H13 (by decide) (by kernel_rfl) trivial fun _ wd14 H15 hb => ?_
 clear H13
 replace hS := hS.below hb
 clear hb
 refine wl_end rfl ?_
 refine s_reg [] [4, 5, 10] [(4, [], vP b3), (5, [], vI y9.1), (10, [], .bool (y9.1 != 0))] [] H15 (by kernel_rfl) trivial fun _ wd16 H17 hb => ?_
 clear H15
 replace hS := hS.below hb
 clear hb
 refine w_if H17 rfl (fun hc => ?_) (fun hc => ?c23)
 case c23 =>
  replace hm := bF hc hm
  refine w_skip ?_
  refine s_reg [(.slice g10.a y9.2.length g10.c)] [2, 3] [(2, [], .slice g10.a y9.2.length g10.c), (3, [], vI 0)] [fun wz => V.at1 ⟨b3, 0, none⟩ (.slice g10.a y9.2.length g10.c) wz] H17 (by kernel_rfl) ⟨((hS.bk 0 rfl).at1 rfl), trivial⟩ fun _ wd21 H22 hb => ?_
  clear H17
  replace hS := hS.below hb
  clear hb
  replace hS : SH M X w [eO 39 tyA2_int y9.2 g10, Ent.gint 0] _ := hS.sel [1, 2] rfl
  refine w_ret ?_
  obtain rfl := someE hm
  exact retR2 H22 rfl rfl rfl ⟨_, rfl, g10, rfl, (hS.sel [0] rfl)⟩
 replace hm := bT hc hm
 refine s_reg [] [2, 3] [(2, [], vO), (3, [], vI y9.1)] [] H17 (by kernel_rfl) trivial fun _ wd18 H19 hb => ?_
 clear H17
 replace hS := hS.below hb
 clear hb
 replace hS : SH M X w [Ent.gint 0] _ := hS.sel [2] rfl
 refine w_ret ?_
 obtain rfl := someE hm
 replace hS : SH M X w [eO 39 tyA2_int ([] : List TA2_int) (.nil), Ent.gint 0] _ := hS.addNil 39 tyA2_int
 exact retR2 H19 rfl rfl rfl ⟨_, rfl, Gh.nil, rfl, (hS.sel [0] rfl)⟩
theorem token_Spans_ok  (m : Nat) (s : Str) (r : (List TA2_int) × Int) (hm : token_Spans m s = some r) (M : Av) (w : World) (hS : S0 M [Ent.gint 0] w) : DoesX Tryz.prog 11 ⟨[vS s]⟩ w (fun v w' => ∃ (g901 : Gh), v = .tuple ⟨[.slice g901.a r.1.length g901.c, vI r.2]⟩ ∧ SH M (fpl [Ent.gint 0]) w [eO 39 tyA2_int r.1 g901] w') := ⟨Tryz.call11 _, token_Spans_w M m   s r hm w hS⟩

theorem r02_Same_w {g_a_ : Gh} {g_b_ : Gh} (M : Av) (m : Nat) (a_ : List TToken) (b_ : List TToken) (r : Bool) (hm : r02_Same m a_ b_ = some r) (w : World) (hS : S0 M [eI tyToken a_ g_a_, eI tyToken b_ g_b_] w) : Calls Tryz.prog 13 ⟨[vL g_a_ a_, vL g_b_ b_]⟩ w (fun e w' => ∃ v, e = .returned v ∧ v = .bool r ∧ SH M (fpl [eI tyToken a_ g_a_, eI tyToken b_ g_b_]) w [] w') := by
 rw [r02_Same] at hm
 have hS0 : SH M (fpl [eI tyToken a_ g_a_, eI tyToken b_ g_b_]) w [eI tyToken a_ g_a_, eI tyToken b_ g_b_] w := hS
 generalize hX : fpl [eI tyToken a_ g_a_, eI tyToken b_ g_b_] = X at hS0 ⊢
 clear hS hX
 have hS := hS0
 clear hS0
 refine calls_entryP Tryz.func13 rfl Tryz.ntmps13 rfl fun _ H => ?_
 refine s_reg [] [0, 1] [(0, [], vL g_a_ a_), (1, [], vL g_b_ b_)] [] H (by kernel_rfl) trivial fun _ wd1 H2 hb => ?_
 clear H
 replace hS := hS.below hb
 clear hb
 refine w_seq ?_
 refine s_reg [] [0, 1, 10] [(0, [], vL g_a_ a_), (1, [], vL g_b_ b_), (10, [], .bool ((ln a_) != (ln b_)))] [] H2 (by kernel_rfl) trivial fun _ wd3 H4 hb => ?_
 clear H2
 replace hS := hS.below hb
 clear hb
 refine w_if H4 rfl (fun hc => ?c28) (fun hc => ?_)
 case c28 =>
  replace hm := bT hc hm
  refine s_reg [] [4] [(4, [], vF)] [] H4 (by kernel_rfl) trivial fun _ wd5 H6 hb => ?_
  clear H4
  replace hS := hS.below hb
  clear hb
  replace hS : SH M X w [] _ := hS.sel [] rfl
  refine w_ret ?_
  obtain rfl := someE hm
  exact retR1 H6 rfl rfl ⟨_, rfl, rfl, (hS.sel [] rfl)⟩
 replace hm := bF hc hm
 refine w_skip ?_
 obtain ⟨z7, hz, hm_z7⟩ := bindE hm
 refine w_cut (fun a' w' => ∃ s_z7 : Unit, z7 = Sum.inr s_z7 ∧ Fr 26 [] a' ∧ SH M X w [eI tyToken a_ g_a_, eI tyToken b_ g_b_] w') ?_ ?_
 ·replace hm := hz
  refine s_reg [] [0, 1, 5] [(0, [], vL g_a_ a_), (1, [], vL g_b_ b_), (5, [], vI 0)] [] H4 (by kernel_rfl) trivial fun _ wd8 H9 hb => ?_
  clear H4
  replace hS := hS.below hb
  clear hb
  refine w_block ?_
  refine w_loop (fun kk a' w' => ∃ (v10 : Int), r02_Same_L1 m a_ b_ kk v10 = some _ ∧ Fr 26 [(0, [], vL g_a_ a_), (1, [], vL g_b_ b_), (5, [], vI v10)] a' ∧ SH M X w [eI tyToken a_ g_a_, eI tyToken b_ g_b_] w') ⟨_, 0, hm, FrG.keep (ks := [0, 1, 5]) H9 (by kernel_rfl), hS⟩ ?_
  clear hm H9 hS
  rintro kk _ wd24 ⟨v10, hm, H, hS⟩
  cases kk with
  | zero => exact noneE hm
  | succ kk =>
   rw [r02_Same_L1] at hm
   refine w_seq ?_
   refine s_reg [] [0, 1, 5, 14] [(0, [], vL g_a_ a_), (1, [], vL g_b_ b_), (5, [], vI v10), (14, [], .bool (decide (v10 < (ln a_))))] [] H (by kernel_rfl) trivial fun _ wd11 H12 hb => ?_
   clear H
   replace hS := hS.below hb
   clear hb
   refine w_if H12 rfl (fun hc => ?_) (fun hc => ?c23)
   case c23 =>
    replace hm := bF hc hm
    refine w_exit rfl ?_
    obtain rfl := someE hm
    exact ⟨_, rfl, FrG.keep (ks := []) H12 (by kernel_rfl), hS⟩
   replace hm := bT hc hm
   refine w_skip ?_
   refine w_seq ?_
   refine w_block ?_
   obtain ⟨ho13, hm⟩ := chkE hm
   obtain ⟨ho14, hm⟩ := chkE hm
   obtain ⟨x15, hx15, hm⟩ := letE hm
   refine s_draw [(.agg ⟨[vU ((gi a_ v10).Kind), .string ⟨⟨(gi a_ v10).Text⟩⟩, vI ((gi a_ v10).Num), .string ⟨⟨(gi a_ v10).Unit⟩⟩, .bool ((gi a_ v10).Flag)]⟩), (.agg ⟨[vU ((gi b_ v10).Kind), .string ⟨⟨(gi b_ v10).Text⟩⟩, vI ((gi b_ v10).Num), .string ⟨⟨(gi b_ v10).Unit⟩⟩, .bool ((gi b_ v10).Flag)]⟩)] [0, 1, 5, 25] [(0, [], vL g_a_ a_), (1, [], vL g_b_ b_), (5, [], vI v10), (25, [], .bool x15)] [fun _ => oka g_a_.a ∧ 0 ≤ v10 ∧ v10 < ln a_, fun wz => V.atN (ab g_a_.a) (ao g_a_.a + (v10).toNat * 5) [vU ((gi a_ v10).Kind), .string ⟨⟨(gi a_ v10).Text⟩⟩, vI ((gi a_ v10).Num), .string ⟨⟨(gi a_ v10).Unit⟩⟩, .bool ((gi a_ v10).Flag)] 0 wz, fun _ => oka g_b_.a ∧ 0 ≤ v10 ∧ v10 < ln b_, fun wz => V.atN (ab g_b_.a) (ao g_b_.a + (v10).toNat * 5) [vU ((gi b_ v10).Kind), .string ⟨⟨(gi b_ v10).Text⟩⟩, vI ((gi b_ v10).Num), .string ⟨⟨(gi b_ v10).Unit⟩⟩, .bool ((gi b_ v10).Flag)] 0 wz] H12 (by kernel_rfl) (by kernel_rfl) (by subst hx15; kernel_rfl) ⟨((hS.im 0 rfl).oki ho13), ((hS.im 0 rfl).atA ho13 0 rfl), ((hS.im 1 rfl).oki ho14), ((hS.im 1 rfl).atA ho14 0 rfl), trivial⟩ fun _ wd16 H17 hb => ?_
   clear H12
   replace hS := hS.below hb
   clear hb
   refine w_if H17 rfl (fun hc => ?_) (fun hc => ?c22)
   case c22 =>
    replace hm := bF hc hm
    refine w_skip ?_
    refine w_reg [] [0, 1, 5] [(0, [], vL g_a_ a_), (1, [], vL g_b_ b_), (5, [], vI (w64 (v10 + 1)))] [] H17 (by kernel_rfl) trivial fun _ wd20 H21 hb => ?_
    clear H17
    replace hS := hS.below hb
    clear hb
    exact ⟨_, Nat.lt_succ_self _, w64 (v10 + 1), hm, FrG.keep (ks := [0, 1, 5]) H21 (by kernel_rfl), hS⟩
   replace hm := bT hc hm
   refine s_reg [] [4] [(4, [], vF)] [] H17 (by kernel_rfl) trivial fun _ wd18 H19 hb => ?_
   clear H17
   replace hS := hS.below hb
   clear hb
   refine w_ret ?_
   obtain rfl := someE hm
   have hm := hm_z7
   obtain rfl := someE hm
   exact retR1 H19 rfl rfl ⟨_, rfl, rfl, (hS.sel [] rfl)⟩
 ·rintro _ wd27 ⟨s_z7, hz, H, hS⟩
  subst hz
  replace hm := sumR hm_z7
  replace hS : SH M X w [] _ := hS.sel [] rfl
  refine s_reg [] [4] [(4, [], vT)] [] H (by kernel_rfl) trivial fun _ wd25 H26 hb => ?_
  clear H
  replace hS := hS.below hb
  clear hb
  refine w_ret ?_
  obtain rfl := someE hm
  exact retR1 H26 rfl rfl ⟨_, rfl, rfl, (hS.sel [] rfl)⟩
theorem r02_Same_ok {g_a_ : Gh} {g_b_ : Gh} (m : Nat) (a_ : List TToken) (b_ : List TToken) (r : Bool) (hm : r02_Same m a_ b_ = some r) (w : World) (hL : S0 F0 [eI tyToken a_ g_a_, eI tyToken b_ g_b_] w ∧ fpl [eI tyToken a_ g_a_, eI tyToken b_ g_b_] = []) : RetB Tryz.prog 13 ⟨[vL g_a_ a_, vL g_b_ b_]⟩ (.bool r) w := retB_of hL (Tryz.call13 _) (fun w' h => r02_Same_w F0 m   a_ b_ r hm w' h)

theorem law02_is_w  (M : Av) (m : Nat) (s : Str) (want : TToken) (r : Bool) (hm : law02_is m s want = some r) (w : World) (hS : S0 M [Ent.gint 0] w) : Calls Tryz.prog 22 ⟨[vS s, .agg ⟨[vU want.Kind, .string ⟨⟨want.Text⟩⟩, vI want.Num, .string ⟨⟨want.Unit⟩⟩, .bool want.Flag]⟩]⟩ w (fun e w' => ∃ v, e = .returned v ∧ v = .bool r ∧ SH M (fpl [Ent.gint 0]) w [] w') := by
 rw [law02_is] at hm
 have hS0 : SH M (fpl [Ent.gint 0]) w [Ent.gint 0] w := hS
 generalize hX : fpl [Ent.gint 0] = X at hS0 ⊢
 clear hS hX
 have hS := hS0
 clear hS0
 refine calls_entryP Tryz.func22 rfl Tryz.ntmps22 rfl fun _ H => ?_
 refine w_seq ?_
 refine wl_start ?_
 have hd := hS.hand [] [0] rfl rfl
 refine m_stp [3, 0] [(0, [], vS s)] H rfl rfl rfl rfl (o_box [vU want.Kind, .string ⟨⟨want.Text⟩⟩, vI want.Num, .string ⟨⟨want.Unit⟩⟩, .bool want.Flag] H hd rfl rfl) (fun _ => rfl) fun _ wd2 v H3 hq => ?_
 clear H hd
 obtain ⟨b1, rfl, hq⟩ := hq
 replace hS : SH M X w [eB b1 [vU want.Kind, .string ⟨⟨want.Text⟩⟩, vI want.Num, .string ⟨⟨want.Unit⟩⟩, .bool want.Flag], Ent.gint 0] _ := hS.join [] [0] rfl rfl hq
 clear hq
 refine wl_batch 1 2 [] [0, 3] [(0, [], vS s), (3, [], vP b1)] [] H3 (by decide) (by kernel_rfl) trivial fun _ wd4 H5 hb => ?_
 clear H3
 replace hS := hS.below hb
 clear hb
 refine wl_end rfl ?_
 refine w_seq ?_
 refine wl_start ?_
 refine wl_batch 0 1 [] [3, 8] [(3, [], vP b1), (8, [], vS s)] [] H5 (by decide) (by kernel_rfl) trivial fun _ wd6 H7 hb => ?_
 clear H5
 replace hS := hS.below hb
 clear hb
 obtain ⟨y8, hy8, hm⟩ := bindE hm
 have hd := hS.hand [1] [0, 1] rfl rfl
 refine m_stp [9, 3] [(3, [], vP b1)] H7 rfl rfl rfl rfl (o_callx H7 rfl rfl (token_Tokens_ok m _ _ hy8 _ _ hd)) (fun _ => rfl) fun _ wd11 v H12 hq => ?_
 clear H7 hd
 obtain ⟨g9, rfl, hq⟩ := hq
 replace hS : SH M X w [eO 44 tyToken y8.1 g9, eB b1 [vU want.Kind, .string ⟨⟨want.Text⟩⟩, vI want.Num, .string ⟨⟨want.Unit⟩⟩, .bool want.Flag], Ent.gint 0] _ := hS.join [1] [0, 1] rfl rfl hq
 clear hq
 refine wl_batch 2 7 [] [3, 5, 6] [(3, [], vP b1), (5, [], .slice g9.a y8.1.length g9.c), (6, [], vI y8.2)] [] H12 (by decide) (by kernel_rfl) trivial fun _ wd13 H14 hb => ?_
 clear H12
 replace hS := hS.below hb
 clear hb
 refine wl_end rfl ?_
 obtain ⟨ho15, hm⟩ := chkE hm
 obtain ⟨x16, hx16, hm⟩ := letE hm
 refine s_draw [(.agg ⟨[vU ((gi y8.1 (0 : Int)).Kind), .string ⟨⟨(gi y8.1 (0 : Int)).Text⟩⟩, vI ((gi y8.1 (0 : Int)).Num), .string ⟨⟨(gi y8.1 (0 : Int)).Unit⟩⟩, .bool ((gi y8.1 (0 : Int)).Flag)]⟩), (.agg ⟨[vU want.Kind, .string ⟨⟨want.Text⟩⟩, vI want.Num, .string ⟨⟨want.Unit⟩⟩, .bool want.Flag]⟩)] [4] [(4, [], .bool x16)] [fun _ => ((cond (y8.2 == 0) ((ln y8.1) == 1) false) = true ∧ True → oka g9.a ∧ 0 ≤ (0 : Int) ∧ (0 : Int) < ln y8.1), fun wz => ((cond (y8.2 == 0) ((ln y8.1) == 1) false) = true ∧ True → V.atN (ab g9.a) (ao g9.a + ((0 : Int)).toNat * 5) [vU ((gi y8.1 (0 : Int)).Kind), .string ⟨⟨(gi y8.1 (0 : Int)).Text⟩⟩, vI ((gi y8.1 (0 : Int)).Num), .string ⟨⟨(gi y8.1 (0 : Int)).Unit⟩⟩, .bool ((gi y8.1 (0 : Int)).Flag)] 0 wz), fun wz => ((cond (y8.2 == 0) ((ln y8.1) == 1) false) = true ∧ True → V.atN b1 0 [vU want.Kind, .string ⟨⟨want.Text⟩⟩, vI want.Num, .string ⟨⟨want.Unit⟩⟩, .bool want.Flag] 0 wz)] H14 (by kernel_rfl) (by kernel_rfl) (by subst hx16; kernel_rfl) ⟨fun hg => (hS.osl 0 rfl).oki (ho15 hg.1), fun hg => (hS.osl 0 rfl).atA (ho15 hg.1) 0 rfl, fun hg => (hS.bk 1 rfl).atD rfl, trivial⟩ fun _ wd17 H18 hb => ?_
 clear H14
 replace hS := hS.below hb
 clear hb
 replace hS : SH M X w [Ent.gint 0] _ := hS.sel [2] rfl
 refine w_ret ?_
 obtain rfl := someE hm
 exact retR1 H18 rfl rfl ⟨_, rfl, rfl, (hS.sel [] rfl)⟩
theorem law02_is_ok  (m : Nat) (s : Str) (want : TToken) (r : Bool) (hm : law02_is m s want = some r) (w : World) (hL : S0 F0 [Ent.gint 0] w ∧ fpl [Ent.gint 0] = []) : RetB Tryz.prog 22 ⟨[vS s, .agg ⟨[vU want.Kind, .string ⟨⟨want.Text⟩⟩, vI want.Num, .string ⟨⟨want.Unit⟩⟩, .bool want.Flag]⟩]⟩ (.bool r) w := retB_of hL (Tryz.call22 _) (fun w' h => law02_is_w F0 m   s want r hm w' h)

theorem law02_alive_w  (M : Av) (m : Nat)  (r : Bool) (hm : law02_alive m = some r) (w : World) (hS : S0 M [Ent.gint 0] w) : Calls Tryz.prog 15 ⟨[]⟩ w (fun e w' => ∃ v, e = .returned v ∧ v = .bool r ∧ SH M (fpl [Ent.gint 0]) w [] w') := by
 rw [law02_alive] at hm
 have hS0 : SH M (fpl [Ent.gint 0]) w [Ent.gint 0] w := hS
 generalize hX : fpl [Ent.gint 0] = X at hS0 ⊢
 clear hS hX
 have hS := hS0
 clear hS0
 refine calls_entryP Tryz.func15 rfl Tryz.ntmps15 rfl fun _ H => ?_
 refine s_reg [] [] [] [] H (by kernel_rfl) trivial fun _ wd1 H2 hb => ?_
 clear H
 replace hS := hS.below hb
 clear hb
 refine w_seq ?_
 refine wl_start ?_
 obtain ⟨y3, hy3, hm⟩ := bindE hm
 have hd := hS.hand [0] [0] rfl rfl
 refine m_stp [7] [] H2 rfl rfl rfl rfl (o_callx H2 rfl rfl (token_Tokens_ok m _ _ hy3 _ _ hd)) (fun _ => rfl) fun _ wd6 v H7 hq => ?_
 clear H2 hd
 obtain ⟨g4, rfl, hq⟩ := hq
 replace hS : SH M X w [eO 44 tyToken y3.1 g4, Ent.gint 0] _ := hS.join [0] [0] rfl rfl hq
 clear hq
 refine wl_batch 1 6 [] [1, 2] [(1, [], .slice g4.a y3.1.length g4.c), (2, [], vI y3.2)] [] H7 (by decide) (by kernel_rfl) trivial fun _ wd8 H9 hb => ?_
 clear H7
 replace hS := hS.below hb
 clear hb
 refine wl_end rfl ?_
 refine w_seq ?_
 refine wl_start ?_
 obtain ⟨y10, hy10, hm⟩ := bindE hm
 have hd := hS.hand [1] [0, 1] rfl rfl
 refine m_stp [11, 1, 2] [(1, [], .slice g4.a y3.1.length g4.c), (2, [], vI y3.2)] H9 rfl rfl rfl rfl (o_callx H9 rfl rfl (token_Spans_ok m _ _ hy10 _ _ hd)) (fun _ => rfl) fun _ wd13 v H14 hq => ?_
 clear H9 hd
 obtain ⟨g11, rfl, hq⟩ := hq
 replace hS : SH M X w [eO 39 tyA2_int y10.1 g11, eO 44 tyToken y3.1 g4, Ent.gint 0] _ := hS.join [1] [0, 1] rfl rfl hq
 clear hq
 refine wl_batch 1 6 [] [1, 2, 3, 4] [(1, [], .slice g4.a y3.1.length g4.c), (2, [], vI y3.2), (3, [], .slice g11.a y10.1.length g11.c), (4, [], vI y10.2)] [] H14 (by decide) (by kernel_rfl) trivial fun _ wd15 H16 hb => ?_
 clear H14
 replace hS := hS.below hb
 clear hb
 refine wl_end rfl ?_
 refine w_seq ?_
 obtain ⟨x17, hx17, hm⟩ := letE hm
 obtain ⟨ho18, hm⟩ := chkE hm
 obtain ⟨x19, hx19, hm⟩ := letE hm
 refine s_reg [(.agg ⟨[vI ((gi y10.1 (7 : Int)).e0), vI ((gi y10.1 (7 : Int)).e1)]⟩)] [1, 31] [(1, [], .slice g4.a y3.1.length g4.c), (31, [], .bool x19)] [fun _ => (x17 = false ∧ True → oka g11.a ∧ 0 ≤ (7 : Int) ∧ (7 : Int) < ln y10.1), fun wz => (x17 = false ∧ True → V.atN (ab g11.a) (ao g11.a + ((7 : Int)).toNat * 2) [vI ((gi y10.1 (7 : Int)).e0), vI ((gi y10.1 (7 : Int)).e1)] 0 wz)] H16 (by subst hx17 hx19; kernel_rfl) ⟨fun hg => (hS.osl 0 rfl).oki (ho18 hg.1), fun hg => (hS.osl 0 rfl).atA (ho18 hg.1) 0 rfl, trivial⟩ fun _ wd20 H21 hb => ?_
 clear H16
 replace hS := hS.below hb
 clear hb
 replace hS : SH M X w [eO 44 tyToken y3.1 g4, Ent.gint 0] _ := hS.sel [1, 2] rfl
 refine w_if H21 rfl (fun hc => ?c39) (fun hc => ?_)
 case c39 =>
  replace hm := bT hc hm
  refine s_reg [] [0] [(0, [], vF)] [] H21 (by kernel_rfl) trivial fun _ wd22 H23 hb => ?_
  clear H21
  replace hS := hS.below hb
  clear hb
  replace hS : SH M X w [Ent.gint 0] _ := hS.sel [1] rfl
  refine w_ret ?_
  obtain rfl := someE hm
  exact retR1 H23 rfl rfl ⟨_, rfl, rfl, (hS.sel [] rfl)⟩
 replace hm := bF hc hm
 refine w_skip ?_
 refine w_seq ?_
 refine wl_start ?_
 refine wl_batch 0 8 [] [1, 32, 33, 34, 35, 36, 37, 38, 39] [(1, [], .slice g4.a y3.1.length g4.c), (32, [], .agg ⟨[vU 1, vS [97], vI 0, vN, vF]⟩), (33, [], .agg ⟨[vU 9, vS [46], vI 0, vN, vF]⟩), (34, [], .agg ⟨[vU 1, vS [98], vI 0, vN, vF]⟩), (35, [], .agg ⟨[vU 23, vN, vI 0, vN, vF]⟩), (36, [], .agg ⟨[vU 1, vS [99, 111, 108, 111, 114], vI 0, vN, vF]⟩), (37, [], .agg ⟨[vU 16, vN, vI 0, vN, vF]⟩), (38, [], .agg ⟨[vU 4, vS [102, 48, 48], vI 0, vN, vT]⟩), (39, [], .agg ⟨[vU 24, vN, vI 0, vN, vF]⟩)] [] H21 (by decide) (by kernel_rfl) trivial fun _ wd24 H25 hb => ?_
 clear H21
 replace hS := hS.below hb
 clear hb
 have hd := hS.hand [] [0, 1] rfl rfl
 refine m_stp [40, 1] [(1, [], .slice g4.a y3.1.length g4.c)] H25 rfl rfl rfl rfl (o_lit (T := tyToken) (E := 44) (zv := .agg ⟨[vU 0, vN, vI 0, vN, vF]⟩) [vU 1, vS [97], vI 0, vN, vF, vU 9, vS [46], vI 0, vN, vF, vU 1, vS [98], vI 0, vN, vF, vU 23, vN, vI 0, vN, vF, vU 1, vS [99, 111, 108, 111, 114], vI 0, vN, vF, vU 16, vN, vI 0, vN, vF, vU 4, vS [102, 48, 48], vI 0, vN, vT, vU 24, vN, vI 0, vN, vF] ([(TToken.mk 1 [97] 0 [] false), (TToken.mk 9 [46] 0 [] false), (TToken.mk 1 [98] 0 [] false), (TToken.mk 23 [] 0 [] false), (TToken.mk 1 [99, 111, 108, 111, 114] 0 [] false), (TToken.mk 16 [] 0 [] false), (TToken.mk 4 [102, 48, 48] 0 [] true), (TToken.mk 24 [] 0 [] false)] : List TToken) [gL [], gL [], gL [], gL [], gL [], gL [], gL [], gL []] _ H25 hd rfl (by kernel_rfl) (by kernel_rfl) (by kernel_rfl) (by kernel_rfl) (by kernel_rfl) (by kernel_rfl) (by kernel_rfl) rfl (InnL.cons trivial (InnL.cons trivial (InnL.cons trivial (InnL.cons trivial (InnL.cons trivial (InnL.cons trivial (InnL.cons trivial (InnL.cons trivial InnL.nil))))))))) (fun _ => rfl) fun _ wd28 v H29 hq => ?_
 clear H25 hd
 obtain ⟨g26, rfl, hq⟩ := hq
 replace hS : SH M X w [eO 44 tyToken ([(TToken.mk 1 [97] 0 [] false), (TToken.mk 9 [46] 0 [] false), (TToken.mk 1 [98] 0 [] false), (TToken.mk 23 [] 0 [] false), (TToken.mk 1 [99, 111, 108, 111, 114] 0 [] false), (TToken.mk 16 [] 0 [] false), (TToken.mk 4 [102, 48, 48] 0 [] true), (TToken.mk 24 [] 0 [] false)] : List TToken) g26, eO 44 tyToken y3.1 g4, Ent.gint 0] _ := hS.join [] [0, 1] rfl rfl hq
 clear hq
 refine wl_batch 9 10 [] [1, 5] [(1, [], .slice g4.a y3.1.length g4.c), (5, [], .slice g26.a 8 g26.c)] [] H29 (by decide) (by kernel_rfl) trivial fun _ wd30 H31 hb => ?_
 clear H29
 replace hS := hS.below hb
 clear hb
 refine wl_end rfl ?_
 obtain ⟨y32, hy32, hm⟩ := bindE hm
 obtain ⟨y33, hy33, hm⟩ := bindE hm
 obtain ⟨y34, hy34, hm⟩ := bindE hm
 obtain ⟨y35, hy35, hm⟩ := bindE hm
 obtain ⟨x36, hx36, hm⟩ := letE hm
 refine s_reg [(.bool y32), (.bool y33), (.bool y34), (.bool y35)] [0] [(0, [], .bool x36)] [fun wz => RetB Tryz.prog 13 ⟨[.slice g4.a y3.1.length g4.c, .slice g26.a 8 g26.c]⟩ (.bool y32) wz, fun wz => (y32 = true ∧ True → RetB Tryz.prog 22 ⟨[vS [45, 49, 46, 53, 101, 109], .agg ⟨[vU 12, vN, vI (-1500), vS [101, 109], vF]⟩]⟩ (.bool y33) wz), fun wz => ((cond y32 y33 false) = true ∧ True → RetB Tryz.prog 22 ⟨[vS [117, 114, 108, 40, 32, 120, 32, 41], .agg ⟨[vU 7, vS [120], vI 0, vN, vF]⟩]⟩ (.bool y34) wz), fun wz => ((cond (cond y32 y33 false) y34 false) = true ∧ True → RetB Tryz.prog 22 ⟨[vS [92, 54, 49, 32, 98], .agg ⟨[vU 1, vS [97, 98], vI 0, vN, vF]⟩]⟩ (.bool y35) wz)] H31 (by subst hx36; kernel_rfl) ⟨(r02_Same_ok (g_a_ := g4) (g_b_ := g26) m _ _ _ hy32 _ (s0im (s0im s0nil (hS.osl 0 rfl)) (hS.osl 1 rfl))), fun hg => law02_is_ok m _ _ _ (bT (hg.1) hy33) _ (s0gi s0nil (hS.gi 2 rfl)), fun hg => law02_is_ok m _ _ _ (bT (hg.1) hy34) _ (s0gi s0nil (hS.gi 2 rfl)), fun hg => law02_is_ok m _ _ _ (bT (hg.1) hy35) _ (s0gi s0nil (hS.gi 2 rfl)), trivial⟩ fun _ wd37 H38 hb => ?_
 clear H31
 replace hS := hS.below hb
 clear hb
 replace hS : SH M X w [Ent.gint 0] _ := hS.sel [2] rfl
 refine w_ret ?_
 obtain rfl := someE hm
 exact retR1 H38 rfl rfl ⟨_, rfl, rfl, (hS.sel [] rfl)⟩
theorem law02_alive_ok  (m : Nat)  (r : Bool) (hm : law02_alive m = some r) (w : World) (hL : S0 F0 [Ent.gint 0] w ∧ fpl [Ent.gint 0] = []) : RetB Tryz.prog 15 ⟨[]⟩ (.bool r) w := retB_of hL (Tryz.call15 _) (fun w' h => law02_alive_w F0 m    r hm w' h)

theorem law02_TokenRest_w  (M : Av) (m : Nat) (s : Str) (at_ : Int) (r : Bool) (hm : law02_TokenRest m s at_ = some r) (w : World) (hS : S0 M [Ent.gint 0] w) : Calls Tryz.prog 5 ⟨[vS s, vI at_]⟩ w (fun e w' => ∃ v, e = .returned v ∧ v = .bool r ∧ SH M (fpl [Ent.gint 0]) w [] w') := by
 rw [law02_TokenRest] at hm
 have hS0 : SH M (fpl [Ent.gint 0]) w [Ent.gint 0] w := hS
 generalize hX : fpl [Ent.gint 0] = X at hS0 ⊢
 clear hS hX
 have hS := hS0
 clear hS0
 refine calls_entryP Tryz.func5 rfl Tryz.ntmps5 rfl fun _ H => ?_
 refine s_reg [] [0, 1] [(0, [], vS s), (1, [], vI at_)] [] H (by kernel_rfl) trivial fun _ wd1 H2 hb => ?_
 clear H
 replace hS := hS.below hb
 clear hb
 refine w_seq ?_
 refine s_reg [] [0, 1, 15] [(0, [], vS s), (1, [], vI at_), (15, [], .bool (decide (500 < (ln s))))] [] H2 (by kernel_rfl) trivial fun _ wd3 H4 hb => ?_
 clear H2
 replace hS := hS.below hb
 clear hb
 refine w_if H4 rfl (fun hc => ?c87) (fun hc => ?_)
 case c87 =>
  replace hm := bT hc hm
  obtain ⟨y5, hy5, hm⟩ := bindE hm
  refine s_reg [(.bool y5)] [4] [(4, [], .bool y5)] [fun wz => RetB Tryz.prog 15 ⟨[]⟩ (.bool y5) wz] H4 (by kernel_rfl) ⟨(law02_alive_ok m _ hy5 _ (s0gi s0nil (hS.gi 0 rfl))), trivial⟩ fun _ wd6 H7 hb => ?_
  clear H4
  replace hS := hS.below hb
  clear hb
  refine w_ret ?_
  obtain rfl := someE hm
  exact retR1 H7 rfl rfl ⟨_, rfl, rfl, (hS.sel [] rfl)⟩
 replace hm := bF hc hm
 refine w_skip ?_
 obtain ⟨y8, hy8, hm⟩ := letE hm
 refine s_reg [(.tuple ⟨[.string ⟨⟨y8.1⟩⟩, vI y8.2]⟩)] [0, 1, 5, 6] [(0, [], vS s), (1, [], vI at_), (5, [], .string ⟨⟨y8.1⟩⟩), (6, [], vI y8.2)] [fun wz => RetB Tryz.prog 16 ⟨[vS s]⟩ (.tuple ⟨[.string ⟨⟨y8.1⟩⟩, vI y8.2]⟩) wz] H4 (by subst hy8; kernel_rfl) ⟨((by rw [hy8]; exact (cleanF_ok _).b)), trivial⟩ fun _ wd9 H10 hb => ?_
 clear H4
 replace hS := hS.below hb
 clear hb
 refine w_seq ?_
 refine wl_start ?_
 refine wl_batch 0 1 [] [0, 1, 5, 6, 23] [(0, [], vS s), (1, [], vI at_), (5, [], .string ⟨⟨y8.1⟩⟩), (6, [], vI y8.2), (23, [], vS s)] [] H10 (by decide) (by kernel_rfl) trivial fun _ wd11 H12 hb => ?_
 clear H10
 replace hS := hS.below hb
 clear hb
 obtain ⟨y13, hy13, hm⟩ := bindE hm
 have hd := hS.hand [0] [0] rfl rfl
 refine m_stp [24, 0, 1, 5, 6] [(0, [], vS s), (1, [], vI at_), (5, [], .string ⟨⟨y8.1⟩⟩), (6, [], vI y8.2)] H12 rfl rfl rfl rfl (o_callx H12 rfl rfl (token_Tokens_ok m _ _ hy13 _ _ hd)) (fun _ => rfl) fun _ wd16 v H17 hq => ?_
 clear H12 hd
 obtain ⟨g14, rfl, hq⟩ := hq
 replace hS : SH M X w [eO 44 tyToken y13.1 g14, Ent.gint 0] _ := hS.join [0] [0] rfl rfl hq
 clear hq
 refine wl_batch 2 7 [] [0, 1, 5, 6, 7, 8] [(0, [], vS s), (1, [], vI at_), (5, [], .string ⟨⟨y8.1⟩⟩), (6, [], vI y8.2), (7, [], .slice g14.a y13.1.length g14.c), (8, [], vI y13.2)] [] H17 (by decide) (by kernel_rfl) trivial fun _ wd18 H19 hb => ?_
 clear H17
 replace hS := hS.below hb
 clear hb
 refine wl_end rfl ?_
 refine w_seq ?_
 refine wl_start ?_
 refine wl_batch 0 1 [] [1, 5, 6, 7, 8, 28] [(1, [], vI at_), (5, [], .string ⟨⟨y8.1⟩⟩), (6, [], vI y8.2), (7, [], .slice g14.a y13.1.length g14.c), (8, [], vI y13.2), (28, [], vS s)] [] H19 (by decide) (by kernel_rfl) trivial fun _ wd20 H21 hb => ?_
 clear H19
 replace hS := hS.below hb
 clear hb
 obtain ⟨y22, hy22, hm⟩ := bindE hm
 have hd := hS.hand [1] [0, 1] rfl rfl
 refine m_stp [29, 1, 5, 6, 7, 8] [(1, [], vI at_), (5, [], .string ⟨⟨y8.1⟩⟩), (6, [], vI y8.2), (7, [], .slice g14.a y13.1.length g14.c), (8, [], vI y13.2)] H21 rfl rfl rfl rfl (o_callx H21 rfl rfl (token_Spans_ok m _ _ hy22 _ _ hd)) (fun _ => rfl) fun _ wd25 v H26 hq => ?_
 clear H21 hd
 obtain ⟨g23, rfl, hq⟩ := hq
 replace hS : SH M X w [eO 39 tyA2_int y22.1 g23, eO 44 tyToken y13.1 g14, Ent.gint 0] _ := hS.join [1] [0, 1] rfl rfl hq
 clear hq
 refine wl_batch 2 7 [] [1, 5, 6, 7, 8, 9, 10] [(1, [], vI at_), (5, [], .string ⟨⟨y8.1⟩⟩), (6, [], vI y8.2), (7, [], .slice g14.a y13.1.length g14.c), (8, [], vI y13.2), (9, [], .slice g23.a y22.1.length g23.c), (10, [], vI y22.2)] [] H26 (by decide) (by kernel_rfl) trivial fun _ wd27 H28 hb => ?_
 clear H26
 replace hS := hS.below hb
 clear hb
 refine wl_end rfl ?_
 refine w_seq ?_
 obtain ⟨x29, hx29, hm⟩ := letE hm
 refine s_reg [] [1, 5, 7, 8, 9, 10, 48] [(1, [], vI at_), (5, [], .string ⟨⟨y8.1⟩⟩), (7, [], .slice g14.a y13.1.length g14.c), (8, [], vI y13.2), (9, [], .slice g23.a y22.1.length g23.c), (10, [], vI y22.2), (48, [], .bool (cond x29 true ((ln y13.1) != (ln y22.1))))] [] H28 (by subst hx29; kernel_rfl) trivial fun _ wd30 H31 hb => ?_
 clear H28
 replace hS := hS.below hb
 clear hb
 refine w_if H31 rfl (fun hc => ?c86) (fun hc => ?_)
 case c86 =>
  replace hm := bT hc hm
  refine s_reg [] [4] [(4, [], .bool (cond (y13.2 == 4) (y22.2 == y13.2) false))] [] H31 (by kernel_rfl) trivial fun _ wd32 H33 hb => ?_
  clear H31
  replace hS := hS.below hb
  clear hb
  replace hS : SH M X w [Ent.gint 0] _ := hS.sel [2] rfl
  refine w_ret ?_
  obtain rfl := someE hm
  exact retR1 H33 rfl rfl ⟨_, rfl, rfl, (hS.sel [] rfl)⟩
 replace hm := bF hc hm
 refine w_skip ?_
 refine w_seq ?_
 obtain ⟨x34, hx34, hm⟩ := letE hm
 refine s_reg [] [1, 5, 7, 9, 63] [(1, [], vI at_), (5, [], .string ⟨⟨y8.1⟩⟩), (7, [], .slice g14.a y13.1.length g14.c), (9, [], .slice g23.a y22.1.length g23.c), (63, [], .bool x34)] [] H31 (by subst hx34; kernel_rfl) trivial fun _ wd35 H36 hb => ?_
 clear H31
 replace hS := hS.below hb
 clear hb
 refine w_if H36 rfl (fun hc => ?c85) (fun hc => ?_)
 case c85 =>
  replace hm := bT hc hm
  obtain ⟨y37, hy37, hm⟩ := bindE hm
  refine s_reg [(.bool y37)] [4] [(4, [], .bool y37)] [fun wz => RetB Tryz.prog 15 ⟨[]⟩ (.bool y37) wz] H36 (by kernel_rfl) ⟨(law02_alive_ok m _ hy37 _ (s0gi s0nil (hS.gi 2 rfl))), trivial⟩ fun _ wd38 H39 hb => ?_
  clear H36
  replace hS := hS.below hb
  clear hb
  replace hS : SH M X w [Ent.gint 0] _ := hS.sel [2] rfl
  refine w_ret ?_
  obtain rfl := someE hm
  exact retR1 H39 rfl rfl ⟨_, rfl, rfl, (hS.sel [] rfl)⟩
 replace hm := bF hc hm
 refine w_skip ?_
 refine w_seq ?_
 obtain ⟨ho40, hm⟩ := chkE hm
 obtain ⟨x41, hx41, hm⟩ := letE hm
 refine s_reg [(vI ((gi y22.1 at_).e1)), (vI ((gi y22.1 at_).e1))] [1, 5, 7, 9, 80] [(1, [], vI at_), (5, [], .string ⟨⟨y8.1⟩⟩), (7, [], .slice g14.a y13.1.length g14.c), (9, [], .slice g23.a y22.1.length g23.c), (80, [], .bool x41)] [fun _ => oka g23.a ∧ 0 ≤ at_ ∧ at_ < ln y22.1, fun _ => 0 ≤ (1 : Int) ∧ (1 : Int) < 2, fun wz => V.at1 ⟨ab g23.a, ao g23.a + (at_).toNat * 2 + 1, none⟩ (vI ((gi y22.1 at_).e1)) wz, fun _ => ((decide (((gi y22.1 at_).e1) < 0)) = false ∧ True → oka g23.a ∧ 0 ≤ at_ ∧ at_ < ln y22.1), fun _ => ((decide (((gi y22.1 at_).e1) < 0)) = false ∧ True → 0 ≤ (1 : Int) ∧ (1 : Int) < 2), fun wz => ((decide (((gi y22.1 at_).e1) < 0)) = false ∧ True → V.at1 ⟨ab g23.a, ao g23.a + (at_).toNat * 2 + 1, none⟩ (vI ((gi y22.1 at_).e1)) wz)] H36 (by subst hx41; kernel_rfl) ⟨((hS.osl 0 rfl).oki ho40), (show 0 ≤ (1 : Int) ∧ (1 : Int) < 2 from by decide), ((hS.osl 0 rfl).at1 ho40 1 rfl), fun hg => (hS.osl 0 rfl).oki ho40, fun hg => (show 0 ≤ (1 : Int) ∧ (1 : Int) < 2 from by decide), fun hg => (hS.osl 0 rfl).at1 ho40 1 rfl, trivial⟩ fun _ wd42 H43 hb => ?_
 clear H36
 replace hS := hS.below hb
 clear hb
 refine w_if H43 rfl (fun hc => ?c84) (fun hc => ?_)
 case c84 =>
  replace hm := bT hc hm
  refine s_reg [] [4] [(4, [], vF)] [] H43 (by kernel_rfl) trivial fun _ wd44 H45 hb => ?_
  clear H43
  replace hS := hS.below hb
  clear hb
  replace hS : SH M X w [Ent.gint 0] _ := hS.sel [2] rfl
  refine w_ret ?_
  obtain rfl := someE hm
  exact retR1 H45 rfl rfl ⟨_, rfl, rfl, (hS.sel [] rfl)⟩
 replace hm := bF hc hm
 refine w_skip ?_
 refine w_seq ?_
 refine wl_start ?_
 obtain ⟨ho46, hm⟩ := chkE hm
 refine wl_batch 0 7 [(vI ((gi y22.1 at_).e1))] [1, 7, 88] [(1, [], vI at_), (7, [], .slice g14.a y13.1.length g14.c), (88, [], .string ⟨⟨sub y8.1 ((gi y22.1 at_).e1) (ln y8.1)⟩⟩)] [fun _ => oka g23.a ∧ 0 ≤ at_ ∧ at_ < ln y22.1, fun _ => 0 ≤ (1 : Int) ∧ (1 : Int) < 2, fun wz => V.at1 ⟨ab g23.a, ao g23.a + (at_).toNat * 2 + 1, none⟩ (vI ((gi y22.1 at_).e1)) wz, fun _ => 0 ≤ ((gi y22.1 at_).e1) ∧ ((gi y22.1 at_).e1) ≤ ln y8.1] H43 (by decide) (by kernel_rfl) ⟨((hS.osl 0 rfl).oki ho40), (show 0 ≤ (1 : Int) ∧ (1 : Int) < 2 from by decide), ((hS.osl 0 rfl).at1 ho40 1 rfl), ho46, trivial⟩ fun _ wd47 H48 hb => ?_
 clear H43
 replace hS := hS.below hb
 clear hb
 obtain ⟨y49, hy49, hm⟩ := bindE hm
 have hd := hS.hand [2] [0, 1, 2] rfl rfl
 refine m_stp [89, 1, 7] [(1, [], vI at_), (7, [], .slice g14.a y13.1.length g14.c)] H48 rfl rfl rfl rfl (o_callx H48 rfl rfl (token_Tokens_ok m _ _ hy49 _ _ hd)) (fun _ => rfl) fun _ wd52 v H53 hq => ?_
 clear H48 hd
 obtain ⟨g50, rfl, hq⟩ := hq
 replace hS : SH M X w [eO 44 tyToken y49.1 g50, eO 39 tyA2_int y22.1 g23, eO 44 tyToken y13.1 g14, Ent.gint 0] _ := hS.join [2] [0, 1, 2] rfl rfl hq
 clear hq
 refine wl_batch 8 13 [] [1, 7, 11, 12] [(1, [], vI at_), (7, [], .slice g14.a y13.1.length g14.c), (11, [], .slice g50.a y49.1.length g50.c), (12, [], vI y49.2)] [] H53 (by decide) (by kernel_rfl) trivial fun _ wd54 H55 hb => ?_
 clear H53
 replace hS := hS.below hb
 clear hb
 refine wl_end rfl ?_
 replace hS : SH M X w [eO 44 tyToken y49.1 g50, eO 44 tyToken y13.1 g14, Ent.gint 0] _ := hS.sel [0, 2, 3] rfl
 replace hS : SH M X w [eI tyToken y13.1 g14, eO 44 tyToken y49.1 g50, Ent.gint 0] _ := SH.frz1 (hS.sel [1, 0, 2] rfl)
 obtain ⟨z56, hz, hm⟩ := bindE hm
 refine w_cut (fun a' w' => Fr 105 [(4, [], .bool z56)] a' ∧ SH M X w [eI tyToken y13.1 g14, eO 44 tyToken y49.1 g50, Ent.gint 0] w') ?_ ?_
 ·replace hm := hz
  refine wl_start ?_
  obtain ⟨x57, hx57, hm⟩ := letE hm
  refine wl_batch 0 3 [] [1, 7, 11, 94] [(1, [], vI at_), (7, [], .slice g14.a y13.1.length g14.c), (11, [], .slice g50.a y49.1.length g50.c), (94, [], .bool x57)] [] H55 (by decide) (by subst hx57; kernel_rfl) trivial fun _ wd58 H59 hb => ?_
  clear H55
  replace hS := hS.below hb
  clear hb
  cases x57
  case true =>
   replace hm := bT rfl hm
   refine wl_batchM 3 7 [] [(94, 0), (95, 1), (96, 1), (98, 1)] [(94, [], vT), (95, [], .slice g50.a y49.1.length g50.c), (96, [], .slice g14.a y13.1.length g14.c), (98, [], vI (w64 (at_ + 1)))] [] H59 (by decide) (by kernel_rfl) trivial fun _ wd60 H61 hb => ?_
   clear H59
   replace hS := hS.below hb
   clear hb
   obtain ⟨ho62, hm⟩ := chkE hm
   obtain ⟨q63, hq63, hm⟩ := letE hm
   have hd := hS.hand [0] [0, 1, 2] rfl rfl
   refine m_stpG 94 [99, 94, 95] [(94, [], vT), (95, [], .slice g50.a y49.1.length g50.c)] H61 rfl rfl rfl rfl (o_sub (T := tyToken) (E := 44) (g := g14) (q := y13.1) (w64 (at_ + 1)) (ln y13.1) (.some (vI (w64 (at_ + 1)))) .none H61 hd (hd.im 0 rfl) rfl rfl rfl rfl rfl rfl (.inr ⟨_, rfl⟩) (.inl ⟨rfl, rfl⟩) (by kernel_rfl) (by kernel_rfl) ho62) (fun _ => rfl) fun _ wd64 v H65 hq => ?_
   clear H61 hd
   obtain ⟨g66, rfl, hq⟩ := hq
   rw [← hq63] at hq
   rw [← hq63] at H65
   replace hS : SH M X w [eI tyToken q63 g66, eI tyToken y13.1 g14, eI tyToken y13.1 g14, eO 44 tyToken y49.1 g50, Ent.gint 0] _ := hS.join [0] [0, 1, 2] rfl rfl hq
   clear hq
   obtain ⟨y68, hy68, hm⟩ := bindE hm
   obtain ⟨y69, hy69, hm⟩ := bindE hm
   refine wl_batch 8 14 [(.bool y68), (.bool y69)] [4] [(4, [], .bool (cond y68 y69 false))] [fun wz => (true = true ∧ True → RetB Tryz.prog 13 ⟨[.slice g50.a y49.1.length g50.c, vL g66 q63]⟩ (.bool y68) wz), fun wz => (y68 = true ∧ True → RetB Tryz.prog 15 ⟨[]⟩ (.bool y69) wz)] H65 (by decide) (by kernel_rfl) ⟨fun hg => r02_Same_ok (g_a_ := g50) (g_b_ := g66) m _ _ _ hy68 _ (s0im (s0im s0nil (hS.im 0 rfl)) (hS.osl 3 rfl)), fun hg => law02_alive_ok m _ (bT (hg.1) hy69) _ (s0gi s0nil (hS.gi 4 rfl)), trivial⟩ fun _ wd70 H71 hb => ?_
   clear H65
   replace hS := hS.below hb
   clear hb
   refine wl_end rfl ?_
   replace hS : SH M X w [eI tyToken y13.1 g14, eO 44 tyToken y49.1 g50, Ent.gint 0] _ := hS.sel [1, 3, 4] rfl
   obtain rfl := someE hm
   exact ⟨FrG.keep (ks := [4]) H71 (by kernel_rfl), hS⟩
  replace hm := bF rfl hm
  refine m_skipG 94 [95, 1, 7, 94] [(95, [], undef), (1, [], vI at_), (7, [], .slice g14.a y13.1.length g14.c), (94, [], vF)] H59 rfl rfl rfl rfl rfl rfl fun _ H72 => ?_
  clear H59
  refine m_skipG 94 [96, 1, 94, 95] [(96, [], undef), (1, [], vI at_), (94, [], vF), (95, [], undef)] H72 rfl rfl rfl rfl rfl rfl fun _ H73 => ?_
  clear H72
  refine m_skipG 94 [97, 94, 95, 96] [(97, [], undef), (94, [], vF), (95, [], undef), (96, [], undef)] H73 rfl rfl rfl rfl rfl rfl fun _ H74 => ?_
  clear H73
  refine m_skipG 94 [98, 94, 95, 96] [(98, [], undef), (94, [], vF), (95, [], undef), (96, [], undef)] H74 rfl rfl rfl rfl rfl rfl fun _ H75 => ?_
  clear H74
  refine m_skipG 94 [99, 94, 95] [(99, [], undef), (94, [], vF), (95, [], undef)] H75 rfl rfl rfl rfl rfl rfl fun _ H76 => ?_
  clear H75
  refine m_skipG 94 [100, 94] [(100, [], undef), (94, [], vF)] H76 rfl rfl rfl rfl rfl rfl fun _ H77 => ?_
  clear H76
  refine wl_batch 9 11 [] [102] [(102, [], vF)] [] H77 (by decide) (by kernel_rfl) trivial fun _ wd78 H79 hb => ?_
  clear H77
  replace hS := hS.below hb
  clear hb
  refine m_skipG 102 [103, 102] [(103, [], undef), (102, [], vF)] H79 rfl rfl rfl rfl rfl rfl fun _ H80 => ?_
  clear H79
  refine wl_batch 12 14 [] [4] [(4, [], vF)] [] H80 (by decide) (by kernel_rfl) trivial fun _ wd81 H82 hb => ?_
  clear H80
  replace hS := hS.below hb
  clear hb
  refine wl_end rfl ?_
  obtain rfl := someE hm
  exact ⟨FrG.keep (ks := [4]) H82 (by kernel_rfl), hS⟩
 ·rintro _ wd83 ⟨H, hS⟩
  replace hS : SH M X w [Ent.gint 0] _ := hS.sel [2] rfl
  refine w_ret ?_
  obtain rfl := someE hm
  exact retR1 H rfl rfl ⟨_, rfl, rfl, (hS.sel [] rfl)⟩
theorem law02_TokenRest_ok  (m : Nat) (s : Str) (at_ : Int) (r : Bool) (hm : law02_TokenRest m s at_ = some r) (w : World) (hL : S0 F0 [Ent.gint 0] w ∧ fpl [Ent.gint 0] = []) : RetB Tryz.prog 5 ⟨[vS s, vI at_]⟩ (.bool r) w := retB_of hL (Tryz.call5 _) (fun w' h => law02_TokenRest_w F0 m   s at_ r hm w' h)

end Go.Proofs.YtfancfogkhclfaaGreatDoor
