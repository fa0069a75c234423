/-
  What the Go functions compute, as Lean functions, and that a call returns just that. Printed by a program.
-/
import Derived.Test.YtpgflfjmjppmeaaGreatDoorRows
import Derived.Test.YtpgflfjmjppmeaaGreatDoorX
import Derived.Test.YtpgflfjmjppmeaaGreatDoorMP
import Derived.Test.YtpgflfjmjppmeaaGreatDoorCO
import Derived.Test.YtpgflfjmjppmeaaGreatDoorM
import Derived.Test.YtpgflfjmjppmeaaGreatDoorW27pb
set_option linter.unusedVariables false
set_option maxRecDepth 20000
set_option maxHeartbeats 4000000
namespace Go.Proofs.YtpgflfjmjppmeaaGreatDoor
open Go.V Go.RowKit

theorem parseval_color_w {g_v__0 : Gh} (M : Av) (m : Nat) (v_ : TValue) (r : TColor × Bool) (hm : parseval_color m v_ = some r) (w : World) (hS : S0 M [eI tyValue v_.List_ g_v__0] w) : Calls Tryz.prog 68 ⟨[vG [vU v_.Token.Kind, vS v_.Token.Text, vI v_.Token.Num, vS v_.Token.Unit, vB v_.Token.Flag, vL g_v__0 v_.List_]]⟩ w (fun e w' => ∃ v, e = .returned v ∧ v = vW [vG (cC r.1), vB r.2] ∧ SH M (fpl [eI tyValue v_.List_ g_v__0]) w [] w') := by
 rw [parseval_color] at hm
 have hS0 : SH M (fpl [eI tyValue v_.List_ g_v__0]) w [eI tyValue v_.List_ g_v__0] w := hS
 generalize hX : fpl [eI tyValue v_.List_ g_v__0] = X at hS0 ⊢
 clear hS hX
 have hS := hS0
 clear hS0
 refine calls_entryP Tryz.func68 rfl Tryz.ntmps68 rfl fun _ H => ?_
 apply w_seq
 apply wl_start
 have hd := hS.hand [] [0] rfl rfl
 refine m_stp [1] [] H rfl rfl rfl rfl (o_box [vU v_.Token.Kind, vS v_.Token.Text, vI v_.Token.Num, vS v_.Token.Unit, vB v_.Token.Flag, vL g_v__0 v_.List_] H hd rfl rfl) (fun _ => rfl) fun _ _ v H3 hq => ?_
 clear H hd
 obtain ⟨b1, rfl, hq⟩ := hq
 replace hS : SH M X w [eB b1 [vU v_.Token.Kind, vS v_.Token.Text, vI v_.Token.Num, vS v_.Token.Unit, vB v_.Token.Flag, vL g_v__0 v_.List_], eI tyValue v_.List_ g_v__0] _ := hS.join [] [0] rfl rfl hq
 clear hq
 have hd := hS.hand [] [0, 1] rfl rfl
 refine m_stp [2, 1] [(1, [], vP b1)] H3 rfl rfl rfl rfl (o_alloc [vU 0, vU 0, vU 0, vU 0] (z := vG [vU 0, vU 0, vU 0, vU 0]) hd (by kernel_rfl) rfl) (fun _ => rfl) fun _ _ v H6 hq => ?_
 clear H3 hd
 obtain ⟨b4, rfl, hq⟩ := hq
 replace hS : SH M X w [eB b4 [vU 0, vU 0, vU 0, vU 0], eB b1 [vU v_.Token.Kind, vS v_.Token.Text, vI v_.Token.Num, vS v_.Token.Unit, vB v_.Token.Flag, vL g_v__0 v_.List_], eI tyValue v_.List_ g_v__0] _ := hS.join [] [0, 1] rfl rfl hq
 clear hq
 refine wl_batch 2 3 [] [1, 2] (fS [1, 2] [vP b1, vP b4]) [] H6 (by decide) (by kernel_rfl) trivial fun _ _ H8 hb => ?_
 replace hS := hS.below hb
 clear H6 hb
 apply wl_end rfl
 obtain ⟨z9, hz, hm_z9⟩ := bindE hm
 refine w_cut (fun a' w' => ∃ s_z9 : Unit, z9 = Sum.inr s_z9 ∧ Fr 48 [(2, [], vP b4)] a' ∧ SH M X w [eB b4 [vU 0, vU 0, vU 0, vU 0], eB b1 [vU v_.Token.Kind, vS v_.Token.Text, vI v_.Token.Num, vS v_.Token.Unit, vB v_.Token.Flag, vL g_v__0 v_.List_], eI tyValue v_.List_ g_v__0] w') ?_ ?_
 ·replace hm := hz
  refine s_reg [(vU v_.Token.Kind)] [1, 2, 9] (fS [1, 2, 9] [vP b1, vP b4, vU v_.Token.Kind]) [rA b1 0 (vU v_.Token.Kind)] H8 (by kernel_rfl) ⟨((hS.bk 1 rfl).at1 rfl), trivial⟩ fun _ _ H11 hb => ?_
  replace hS := hS.below hb
  clear H8 hb
  apply w_block
  refine s_reg [] [1, 2, 9, 10] (fS [1, 2, 9, 10] [vP b1, vP b4, vU v_.Token.Kind, vB (v_.Token.Kind == 1)]) [] H11 (by kernel_rfl) trivial fun _ _ H13 hb => ?_
  replace hS := hS.below hb
  clear H11 hb
  refine w_if H13 rfl (fun hc => ?c57) (fun hc => ?_)
  case c57 =>
   replace hm := bT hc hm
   apply w_seq
   apply wl_start
   obtain ⟨y14, hy14, hm⟩ := bindE hm
   refine wl_batch 0 7 [(vS v_.Token.Text), (vW [vG (cC y14.1), vI y14.2])] [2, 17, 18] (fS [2, 17, 18] [vP b4, vG (cC y14.1), vI y14.2]) [rA b1 1 (vS v_.Token.Text), rB 86 [vS v_.Token.Text] (vW [vG (cC y14.1), vI y14.2])] H13 (by decide) (by kernel_rfl) ⟨((hS.bk 1 rfl).at1 rfl), ((parseval_Named_ok m _ _ hy14).b), trivial⟩ fun _ _ H16 hb => ?_
   replace hS := hS.below hb
   clear H13 hb
   have hd := hS.hand [] [0, 1, 2] rfl rfl
   refine m_stp [4, 2, 17, 18] (fS [2, 17, 18] [vP b4, vG (cC y14.1), vI y14.2]) H16 rfl rfl rfl rfl (o_alloc [vU 0, vU 0, vU 0, vU 0] (z := vG [vU 0, vU 0, vU 0, vU 0]) hd (by kernel_rfl) rfl) (fun _ => rfl) fun _ _ v H19 hq => ?_
   clear H16 hd
   obtain ⟨b17, rfl, hq⟩ := hq
   replace hS : SH M X w [eB b17 [vU 0, vU 0, vU 0, vU 0], eB b4 [vU 0, vU 0, vU 0, vU 0], eB b1 [vU v_.Token.Kind, vS v_.Token.Text, vI v_.Token.Num, vS v_.Token.Unit, vB v_.Token.Flag, vL g_v__0 v_.List_], eI tyValue v_.List_ g_v__0] _ := hS.join [] [0, 1, 2] rfl rfl hq
   clear hq
   have hd := hS.hand [0] [1, 2, 3] rfl rfl
   refine m_stp0 [2, 4, 18] (fS [2, 4, 18] [vP b4, vP b17, vI y14.2]) H19 rfl rfl rfl (o_store (cC y14.1) H19 hd rfl rfl (by kernel_rfl) rfl rfl rfl) rfl fun _ _ H21 hq => ?_
   clear H19 hd
   obtain ⟨_, hq⟩ := hq
   replace hS : SH M X w [eB b17 (cC y14.1), eB b4 [vU 0, vU 0, vU 0, vU 0], eB b1 [vU v_.Token.Kind, vS v_.Token.Text, vI v_.Token.Num, vS v_.Token.Unit, vB v_.Token.Flag, vL g_v__0 v_.List_], eI tyValue v_.List_ g_v__0] _ := hS.join [0] [1, 2, 3] rfl rfl hq
   clear hq
   refine wl_batch 9 10 [] [2, 4, 5] (fS [2, 4, 5] [vP b4, vP b17, vI y14.2]) [] H21 (by decide) (by kernel_rfl) trivial fun _ _ H23 hb => ?_
   replace hS := hS.below hb
   clear H21 hb
   apply wl_end rfl
   apply w_seq
   apply wl_start
   refine wl_batch 0 3 [(vG (cC y14.1))] [2, 19, 21] (fS [2, 19, 21] [vP b4, vG (cC y14.1), vB (y14.2 == 0)]) [rN b17 0 (cC y14.1)] H23 (by decide) (by kernel_rfl) ⟨((hS.bk 0 rfl).atD rfl), trivial⟩ fun _ _ H25 hb => ?_
   replace hS := hS.below hb
   clear H23 hb
   have hd := hS.hand [1] [0, 2, 3] rfl rfl
   refine m_stp0 [2, 21] (fS [2, 21] [vP b4, vB (y14.2 == 0)]) H25 rfl rfl rfl (o_store (cC y14.1) H25 hd rfl rfl (by kernel_rfl) rfl rfl rfl) rfl fun _ _ H27 hq => ?_
   clear H25 hd
   obtain ⟨_, hq⟩ := hq
   replace hS : SH M X w [eB b4 (cC y14.1), eB b17 (cC y14.1), eB b1 [vU v_.Token.Kind, vS v_.Token.Text, vI v_.Token.Num, vS v_.Token.Unit, vB v_.Token.Flag, vL g_v__0 v_.List_], eI tyValue v_.List_ g_v__0] _ := hS.join [1] [0, 2, 3] rfl rfl hq
   clear hq
   refine wl_batch 4 5 [] [2, 3] (fS [2, 3] [vP b4, vB (y14.2 == 0)]) [] H27 (by decide) (by kernel_rfl) trivial fun _ _ H29 hb => ?_
   replace hS := hS.below hb
   clear H27 hb
   apply wl_end rfl
   replace hS : SH M X w [eB b4 (cC y14.1), eB b1 [vU v_.Token.Kind, vS v_.Token.Text, vI v_.Token.Num, vS v_.Token.Unit, vB v_.Token.Flag, vL g_v__0 v_.List_], eI tyValue v_.List_ g_v__0] _ := hS.sel [0, 2, 3] rfl
   apply w_ret
   obtain rfl := someE hm
   have hm := hm_z9
   obtain rfl := someE hm
   exact retR2 H29 rfl (oneRes_agg rfl (hS.bk 0 rfl) Tryz.underlying55 rfl (by kernel_rfl)) rfl ⟨_, rfl, rfl, (hS.sel [] rfl)⟩
  replace hm := bF hc hm
  refine s_reg [] [1, 2, 9, 22] (fS [1, 2, 9, 22] [vP b1, vP b4, vU v_.Token.Kind, vB (v_.Token.Kind == 4)]) [] H13 (by kernel_rfl) trivial fun _ _ H31 hb => ?_
  replace hS := hS.below hb
  clear H13 hb
  refine w_if H31 rfl (fun hc => ?c56) (fun hc => ?_)
  case c56 =>
   replace hm := bT hc hm
   apply w_seq
   apply wl_start
   obtain ⟨y32, hy32, hm⟩ := bindE hm
   refine wl_batch 0 6 [(vS v_.Token.Text), (vW [vG (cC y32.1), vB y32.2])] [2, 28, 29] (fS [2, 28, 29] [vP b4, vG (cC y32.1), vB y32.2]) [rA b1 1 (vS v_.Token.Text), rB 87 [vS v_.Token.Text] (vW [vG (cC y32.1), vB y32.2])] H31 (by decide) (by kernel_rfl) ⟨((hS.bk 1 rfl).at1 rfl), ((parseval_hash_ok m _ _ hy32).b), trivial⟩ fun _ _ H34 hb => ?_
   replace hS := hS.below hb
   clear H31 hb
   have hd := hS.hand [0] [1, 2] rfl rfl
   refine m_stp0 [2, 29] (fS [2, 29] [vP b4, vB y32.2]) H34 rfl rfl rfl (o_store (cC y32.1) H34 hd rfl rfl (by kernel_rfl) rfl rfl rfl) rfl fun _ _ H36 hq => ?_
   clear H34 hd
   obtain ⟨_, hq⟩ := hq
   replace hS : SH M X w [eB b4 (cC y32.1), eB b1 [vU v_.Token.Kind, vS v_.Token.Text, vI v_.Token.Num, vS v_.Token.Unit, vB v_.Token.Flag, vL g_v__0 v_.List_], eI tyValue v_.List_ g_v__0] _ := hS.join [0] [1, 2] rfl rfl hq
   clear hq
   refine wl_batch 7 8 [] [2, 3] (fS [2, 3] [vP b4, vB y32.2]) [] H36 (by decide) (by kernel_rfl) trivial fun _ _ H38 hb => ?_
   replace hS := hS.below hb
   clear H36 hb
   apply wl_end rfl
   apply w_ret
   obtain rfl := someE hm
   have hm := hm_z9
   obtain rfl := someE hm
   exact retR2 H38 rfl (oneRes_agg rfl (hS.bk 0 rfl) Tryz.underlying55 rfl (by kernel_rfl)) rfl ⟨_, rfl, rfl, (hS.sel [] rfl)⟩
  replace hm := bF hc hm
  refine s_reg [] [1, 2, 30] (fS [1, 2, 30] [vP b1, vP b4, vB (v_.Token.Kind == 2)]) [] H31 (by kernel_rfl) trivial fun _ _ H40 hb => ?_
  replace hS := hS.below hb
  clear H31 hb
  refine w_if H40 rfl (fun hc => ?_) (fun hc => ?c55)
  case c55 =>
   replace hm := bF hc hm
   apply w_skip
   obtain rfl := someE hm
   exact ⟨_, rfl, FrG.keep (ks := [2]) H40 (by kernel_rfl), hS⟩
  replace hm := bT hc hm
  obtain ⟨y41, hy41, hm⟩ := bindE hm
  refine s_reg [(vS v_.Token.Text), (vS y41)] [1, 2, 6] (fS [1, 2, 6] [vP b1, vP b4, vS y41]) [rA b1 1 (vS v_.Token.Text), rB 69 [vS v_.Token.Text] (vS y41)] H40 (by kernel_rfl) ⟨((hS.bk 1 rfl).at1 rfl), ((parseval_small_ok m _ _ hy41).b), trivial⟩ fun _ _ H43 hb => ?_
  replace hS := hS.below hb
  clear H40 hb
  obtain ⟨x44, hx44, hm⟩ := letE hm
  refine s_reg [] [1, 2, 41] (fS [1, 2, 41] [vP b1, vP b4, vB x44]) [] H43 (by subst hx44; kernel_rfl) trivial fun _ _ H46 hb => ?_
  replace hS := hS.below hb
  clear H43 hb
  refine w_if H46 rfl (fun hc => ?_) (fun hc => ?c54)
  case c54 =>
   replace hm := bF hc hm
   apply w_skip
   obtain rfl := someE hm
   exact ⟨_, rfl, FrG.keep (ks := [2]) H46 (by kernel_rfl), hS⟩
  replace hm := bT hc hm
  apply w_seq
  apply wl_start
  obtain ⟨y47, hy47, hm⟩ := bindE hm
  refine wl_batch 0 5 [(vL g_v__0 v_.List_), (vW [vG (cC y47.1), vB y47.2])] [2, 45, 46] (fS [2, 45, 46] [vP b4, vG (cC y47.1), vB y47.2]) [rA b1 5 (vL g_v__0 v_.List_), rB 88 [vL g_v__0 v_.List_] (vW [vG (cC y47.1), vB y47.2])] H46 (by decide) (by kernel_rfl) ⟨((hS.bk 1 rfl).at1 rfl), (parseval_rgb_ok (g_l_ := g_v__0) m _ _ hy47 _ (s0im s0nil (hS.im 2 rfl))), trivial⟩ fun _ _ H49 hb => ?_
  replace hS := hS.below hb
  clear H46 hb
  have hd := hS.hand [0] [1, 2] rfl rfl
  refine m_stp0 [2, 46] (fS [2, 46] [vP b4, vB y47.2]) H49 rfl rfl rfl (o_store (cC y47.1) H49 hd rfl rfl (by kernel_rfl) rfl rfl rfl) rfl fun _ _ H51 hq => ?_
  clear H49 hd
  obtain ⟨_, hq⟩ := hq
  replace hS : SH M X w [eB b4 (cC y47.1), eB b1 [vU v_.Token.Kind, vS v_.Token.Text, vI v_.Token.Num, vS v_.Token.Unit, vB v_.Token.Flag, vL g_v__0 v_.List_], eI tyValue v_.List_ g_v__0] _ := hS.join [0] [1, 2] rfl rfl hq
  clear hq
  refine wl_batch 6 7 [] [2, 3] (fS [2, 3] [vP b4, vB y47.2]) [] H51 (by decide) (by kernel_rfl) trivial fun _ _ H53 hb => ?_
  replace hS := hS.below hb
  clear H51 hb
  apply wl_end rfl
  apply w_ret
  obtain rfl := someE hm
  have hm := hm_z9
  obtain rfl := someE hm
  exact retR2 H53 rfl (oneRes_agg rfl (hS.bk 0 rfl) Tryz.underlying55 rfl (by kernel_rfl)) rfl ⟨_, rfl, rfl, (hS.sel [] rfl)⟩
 ·rintro _ _ ⟨s_z9, hz, H, hS⟩
  subst hz
  replace hm := sumR hm_z9
  replace hS : SH M X w [eB b4 [vU 0, vU 0, vU 0, vU 0]] _ := hS.sel [0] rfl
  apply w_seq
  apply wl_start
  refine wl_batch 0 1 [] [2, 47] (fS [2, 47] [vP b4, vG [vU 0, vU 0, vU 0, vU 0]]) [] H (by decide) (by kernel_rfl) trivial fun _ _ H59 hb => ?_
  replace hS := hS.below hb
  clear H hb
  have hd := hS.hand [0] [] rfl rfl
  refine m_stp0 [2] [(2, [], vP b4)] H59 rfl rfl rfl (o_store [vU 0, vU 0, vU 0, vU 0] H59 hd rfl rfl (by kernel_rfl) rfl rfl rfl) rfl fun _ _ H61 hq => ?_
  clear H59 hd
  obtain ⟨_, hq⟩ := hq
  replace hS : SH M X w [eB b4 [vU 0, vU 0, vU 0, vU 0]] _ := hS.join [0] [] rfl rfl hq
  clear hq
  refine wl_batch 2 3 [] [2, 3] (fS [2, 3] [vP b4, vF]) [] H61 (by decide) (by kernel_rfl) trivial fun _ _ H63 hb => ?_
  replace hS := hS.below hb
  clear H61 hb
  apply wl_end rfl
  apply w_ret
  obtain rfl := someE hm
  exact retR2 H63 rfl (oneRes_agg rfl (hS.bk 0 rfl) Tryz.underlying55 rfl (by kernel_rfl)) rfl ⟨_, rfl, rfl, (hS.sel [] rfl)⟩
theorem parseval_color_ok {g_v__0 : Gh} (m : Nat) (v_ : TValue) (r : TColor × Bool) (hm : parseval_color m v_ = some r) (w : World) (hL : S0 F0 [eI tyValue v_.List_ g_v__0] w ∧ fpl [eI tyValue v_.List_ g_v__0] = []) : RetB Tryz.prog 68 ⟨[vG [vU v_.Token.Kind, vS v_.Token.Text, vI v_.Token.Num, vS v_.Token.Unit, vB v_.Token.Flag, vL g_v__0 v_.List_]]⟩ (vW [vG (cC r.1), vB r.2]) w := retB_of hL (Tryz.call68 _) (fun w' h => parseval_color_w F0 m   v_ r hm w' h)

theorem parseval_maybe_w {g_v__0 : Gh} (M : Av) (m : Nat) (v_ : TValue) (r : List TVal) (hm : parseval_maybe m v_ = some r) (w : World) (hS : S0 M [eI tyValue v_.List_ g_v__0] w) : Calls Tryz.prog 46 ⟨[vG [vU v_.Token.Kind, vS v_.Token.Text, vI v_.Token.Num, vS v_.Token.Unit, vB v_.Token.Flag, vL g_v__0 v_.List_]]⟩ w (fun e w' => ∃ v, e = .returned v ∧ ∃ (g901 : Gh), v = vL g901 r ∧ SH M (fpl [eI tyValue v_.List_ g_v__0]) w [eO 57 tyVal r g901] w') := by
 rw [parseval_maybe] at hm
 have hS0 : SH M (fpl [eI tyValue v_.List_ g_v__0]) w [eI tyValue v_.List_ g_v__0] w := hS
 generalize hX : fpl [eI tyValue v_.List_ g_v__0] = X at hS0 ⊢
 clear hS hX
 have hS := hS0
 clear hS0
 refine calls_entryP Tryz.func46 rfl Tryz.ntmps46 rfl fun _ H => ?_
 apply w_seq
 apply wl_start
 have hd := hS.hand [] [0] rfl rfl
 refine m_stp [1] [] H rfl rfl rfl rfl (o_box [vU v_.Token.Kind, vS v_.Token.Text, vI v_.Token.Num, vS v_.Token.Unit, vB v_.Token.Flag, vL g_v__0 v_.List_] H hd rfl rfl) (fun _ => rfl) fun _ _ v H3 hq => ?_
 clear H hd
 obtain ⟨b1, rfl, hq⟩ := hq
 replace hS : SH M X w [eB b1 [vU v_.Token.Kind, vS v_.Token.Text, vI v_.Token.Num, vS v_.Token.Unit, vB v_.Token.Flag, vL g_v__0 v_.List_], eI tyValue v_.List_ g_v__0] _ := hS.join [] [0] rfl rfl hq
 clear hq
 refine wl_batch 1 2 [] [1] [(1, [], vP b1)] [] H3 (by decide) (by kernel_rfl) trivial fun _ _ H5 hb => ?_
 replace hS := hS.below hb
 clear H3 hb
 apply wl_end rfl
 apply w_seq
 apply wl_start
 refine wl_batch 0 2 [(vG (cT v_.Token))] [1, 10] (fS [1, 10] [vP b1, vG (cT v_.Token)]) [rN b1 0 (cT v_.Token)] H5 (by decide) (by kernel_rfl) ⟨((hS.bk 0 rfl).atD rfl), trivial⟩ fun _ _ H7 hb => ?_
 replace hS := hS.below hb
 clear H5 hb
 have hd := hS.hand [] [0, 1] rfl rfl
 refine m_stp [3, 1, 10] (fS [1, 10] [vP b1, vG (cT v_.Token)]) H7 rfl rfl rfl rfl (o_alloc [vU 0, vN, vI 0, vN, vF] (z := vG [vU 0, vN, vI 0, vN, vF]) hd (by kernel_rfl) rfl) (fun _ => rfl) fun _ _ v H10 hq => ?_
 clear H7 hd
 obtain ⟨b8, rfl, hq⟩ := hq
 replace hS : SH M X w [eB b8 [vU 0, vN, vI 0, vN, vF], eB b1 [vU v_.Token.Kind, vS v_.Token.Text, vI v_.Token.Num, vS v_.Token.Unit, vB v_.Token.Flag, vL g_v__0 v_.List_], eI tyValue v_.List_ g_v__0] _ := hS.join [] [0, 1] rfl rfl hq
 clear hq
 have hd := hS.hand [0] [1, 2] rfl rfl
 refine m_stp0 [1, 3] (fS [1, 3] [vP b1, vP b8]) H10 rfl rfl rfl (o_store (cT v_.Token) H10 hd rfl rfl (by kernel_rfl) rfl rfl rfl) rfl fun _ _ H12 hq => ?_
 clear H10 hd
 obtain ⟨_, hq⟩ := hq
 replace hS : SH M X w [eB b8 (cT v_.Token), eB b1 [vU v_.Token.Kind, vS v_.Token.Text, vI v_.Token.Num, vS v_.Token.Unit, vB v_.Token.Flag, vL g_v__0 v_.List_], eI tyValue v_.List_ g_v__0] _ := hS.join [0] [1, 2] rfl rfl hq
 clear hq
 apply wl_end rfl
 refine s_reg [] [1, 3, 4] (fS [1, 3, 4] [vP b1, vP b8, vO]) [] H12 (by kernel_rfl) trivial fun _ _ H14 hb => ?_
 replace hS := hS.below hb
 clear H12 hb
 obtain ⟨z15, hz, hm⟩ := bindE hm
 refine w_cut (fun a' w' => ∃ (g44 : Gh), Fr 82 (fS [3, 4] [vP b8, vL g44 z15]) a' ∧ SH M X w [eO 57 tyVal z15 g44, eB b8 (cT v_.Token), eB b1 [vU v_.Token.Kind, vS v_.Token.Text, vI v_.Token.Num, vS v_.Token.Unit, vB v_.Token.Flag, vL g_v__0 v_.List_], eI tyValue v_.List_ g_v__0] w') ?_ ?_
 ·replace hm := hz
  apply w_seq
  apply wl_start
  obtain ⟨y16, hy16, hm⟩ := bindE hm
  refine wl_batch 0 5 [(vG [vU v_.Token.Kind, vS v_.Token.Text, vI v_.Token.Num, vS v_.Token.Unit, vB v_.Token.Flag, vL g_v__0 v_.List_]), (vW [vG (cC y16.1), vB y16.2])] [3, 4, 14, 15] (fS [3, 4, 14, 15] [vP b8, vO, vG (cC y16.1), vB y16.2]) [rN b1 0 [vU v_.Token.Kind, vS v_.Token.Text, vI v_.Token.Num, vS v_.Token.Unit, vB v_.Token.Flag, vL g_v__0 v_.List_], rB 68 [vG [vU v_.Token.Kind, vS v_.Token.Text, vI v_.Token.Num, vS v_.Token.Unit, vB v_.Token.Flag, vL g_v__0 v_.List_]] (vW [vG (cC y16.1), vB y16.2])] H14 (by decide) (by kernel_rfl) ⟨((hS.bk 1 rfl).atD rfl), (parseval_color_ok (g_v__0 := g_v__0) m _ _ hy16 _ (s0im s0nil (hS.im 2 rfl))), trivial⟩ fun _ _ H18 hb => ?_
  replace hS := hS.below hb
  clear H14 hb
  have hd := hS.hand [] [0, 1, 2] rfl rfl
  refine m_stp [5, 3, 4, 14, 15] (fS [3, 4, 14, 15] [vP b8, vO, vG (cC y16.1), vB y16.2]) H18 rfl rfl rfl rfl (o_alloc [vU 0, vU 0, vU 0, vU 0] (z := vG [vU 0, vU 0, vU 0, vU 0]) hd (by kernel_rfl) rfl) (fun _ => rfl) fun _ _ v H21 hq => ?_
  clear H18 hd
  obtain ⟨b19, rfl, hq⟩ := hq
  replace hS : SH M X w [eB b19 [vU 0, vU 0, vU 0, vU 0], eB b8 (cT v_.Token), eB b1 [vU v_.Token.Kind, vS v_.Token.Text, vI v_.Token.Num, vS v_.Token.Unit, vB v_.Token.Flag, vL g_v__0 v_.List_], eI tyValue v_.List_ g_v__0] _ := hS.join [] [0, 1, 2] rfl rfl hq
  clear hq
  have hd := hS.hand [0] [1, 2, 3] rfl rfl
  refine m_stp0 [3, 4, 5, 15] (fS [3, 4, 5, 15] [vP b8, vO, vP b19, vB y16.2]) H21 rfl rfl rfl (o_store (cC y16.1) H21 hd rfl rfl (by kernel_rfl) rfl rfl rfl) rfl fun _ _ H23 hq => ?_
  clear H21 hd
  obtain ⟨_, hq⟩ := hq
  replace hS : SH M X w [eB b19 (cC y16.1), eB b8 (cT v_.Token), eB b1 [vU v_.Token.Kind, vS v_.Token.Text, vI v_.Token.Num, vS v_.Token.Unit, vB v_.Token.Flag, vL g_v__0 v_.List_], eI tyValue v_.List_ g_v__0] _ := hS.join [0] [1, 2, 3] rfl rfl hq
  clear hq
  refine wl_batch 7 8 [] [3, 4, 5, 6] (fS [3, 4, 5, 6] [vP b8, vO, vP b19, vB y16.2]) [] H23 (by decide) (by kernel_rfl) trivial fun _ _ H25 hb => ?_
  replace hS := hS.below hb
  clear H23 hb
  apply wl_end rfl
  refine s_reg [] [3, 4, 5, 16] (fS [3, 4, 5, 16] [vP b8, vO, vP b19, vB y16.2]) [] H25 (by kernel_rfl) trivial fun _ _ H27 hb => ?_
  replace hS := hS.below hb
  clear H25 hb
  refine w_if H27 rfl (fun hc => ?_) (fun hc => ?c43)
  case c43 =>
   replace hm := bF hc hm
   apply w_skip
   obtain rfl := someE hm
   replace hS : SH M X w [eO 57 tyVal ([] : List TVal) (.nil), eB b19 (cC y16.1), eB b8 (cT v_.Token), eB b1 [vU v_.Token.Kind, vS v_.Token.Text, vI v_.Token.Num, vS v_.Token.Unit, vB v_.Token.Flag, vL g_v__0 v_.List_], eI tyValue v_.List_ g_v__0] _ := hS.addNil 57 tyVal
   replace hS : SH M X w [eO 57 tyVal ([] : List TVal) (.nil), eB b8 (cT v_.Token), eB b1 [vU v_.Token.Kind, vS v_.Token.Text, vI v_.Token.Num, vS v_.Token.Unit, vB v_.Token.Flag, vL g_v__0 v_.List_], eI tyValue v_.List_ g_v__0] _ := hS.sel [0, 2, 3, 4] rfl
   exact ⟨Gh.nil, FrG.keep (ks := [3, 4]) H27 (by kernel_rfl), hS⟩
  replace hm := bT hc hm
  apply wl_start
  refine wl_batch 0 3 [(vG (cC y16.1))] [3, 17, 19] (fS [3, 17, 19] [vP b8, vO, vG [vU 7, vN, vI 0, vU y16.1.Red, vU y16.1.Green, vU y16.1.Blue, vU y16.1.Alpha]]) [rN b19 0 (cC y16.1)] H27 (by decide) (by kernel_rfl) ⟨((hS.bk 0 rfl).atD rfl), trivial⟩ fun _ _ H29 hb => ?_
  replace hS := hS.below hb
  clear H27 hb
  have hd := hS.hand [] [0, 1, 2, 3] rfl rfl
  refine m_stp [20, 3, 17] (fS [3, 17] [vP b8, vO]) H29 rfl rfl rfl rfl (o_lit (T := tyVal) (E := 57) (zv := vG [vU 0, vN, vI 0, vU 0, vU 0, vU 0, vU 0]) [vU 7, vN, vI 0, vU y16.1.Red, vU y16.1.Green, vU y16.1.Blue, vU y16.1.Alpha] ([(TVal.mk 7 [] 0 y16.1)] : List TVal) [gL []] _ H29 hd rfl (by kernel_rfl) (by kernel_rfl) (by kernel_rfl) (by kernel_rfl) (by kernel_rfl) (by kernel_rfl) (by kernel_rfl) rfl (InnL.cons trivial InnL.nil)) (fun _ => rfl) fun _ _ v H33 hq => ?_
  clear H29 hd
  obtain ⟨g30, rfl, hq⟩ := hq
  replace hS : SH M X w [eO 57 tyVal ([(TVal.mk 7 [] 0 y16.1)] : List TVal) g30, eB b19 (cC y16.1), eB b8 (cT v_.Token), eB b1 [vU v_.Token.Kind, vS v_.Token.Text, vI v_.Token.Num, vS v_.Token.Unit, vB v_.Token.Flag, vL g_v__0 v_.List_], eI tyValue v_.List_ g_v__0] _ := hS.join [] [0, 1, 2, 3] rfl rfl hq
  clear hq
  replace hS : SH M X w [eO 57 tyVal ([] : List TVal) (.nil), eO 57 tyVal ([(TVal.mk 7 [] 0 y16.1)] : List TVal) g30, eB b19 (cC y16.1), eB b8 (cT v_.Token), eB b1 [vU v_.Token.Kind, vS v_.Token.Text, vI v_.Token.Num, vS v_.Token.Unit, vB v_.Token.Flag, vL g_v__0 v_.List_], eI tyValue v_.List_ g_v__0] _ := hS.addNil 57 tyVal
  obtain ⟨ho35, hm⟩ := chkE hm
  obtain ⟨q36, hq36, hm⟩ := letE hm
  have hd := hS.hand [0, 1] [2, 3, 4, 5] rfl rfl
  refine m_stp [21, 3] [(3, [], vP b8)] H33 rfl rfl rfl rfl (o_app2 (T := tyVal) (zv := vG [vU 0, vN, vI 0, vU 0, vU 0, vU 0, vU 0]) (g1 := Gh.nil) (g2 := g30) (l1 := ([] : List TVal)) (l2 := ([(TVal.mk 7 [] 0 y16.1)] : List TVal)) q36 hq36.symm H33 hd rfl rfl rfl rfl rfl rfl rfl (by kernel_rfl) (by kernel_rfl) rfl rfl ho35) (fun _ => rfl) fun _ _ v H38 hq => ?_
  clear H33 hd
  obtain ⟨g39, rfl, hq⟩ := hq
  replace hS : SH M X w [eO 57 tyVal q36 g39, eO 57 tyVal ([(TVal.mk 7 [] 0 y16.1)] : List TVal) g30, eB b19 (cC y16.1), eB b8 (cT v_.Token), eB b1 [vU v_.Token.Kind, vS v_.Token.Text, vI v_.Token.Num, vS v_.Token.Unit, vB v_.Token.Flag, vL g_v__0 v_.List_], eI tyValue v_.List_ g_v__0] _ := hS.join [0, 1] [2, 3, 4, 5] rfl rfl hq
  clear hq
  refine wl_batch 5 6 [] [3, 4] (fS [3, 4] [vP b8, vL g39 q36]) [] H38 (by decide) (by kernel_rfl) trivial fun _ _ H41 hb => ?_
  replace hS := hS.below hb
  clear H38 hb
  apply wl_end rfl
  replace hS : SH M X w [eO 57 tyVal q36 g39, eB b8 (cT v_.Token), eB b1 [vU v_.Token.Kind, vS v_.Token.Text, vI v_.Token.Num, vS v_.Token.Unit, vB v_.Token.Flag, vL g_v__0 v_.List_], eI tyValue v_.List_ g_v__0] _ := hS.sel [0, 3, 4, 5] rfl
  obtain rfl := someE hm
  exact ⟨g39, FrG.keep (ks := [3, 4]) H41 (by kernel_rfl), hS⟩
 ·rintro _ _ ⟨g44, H, hS⟩
  replace hS : SH M X w [eO 57 tyVal z15 g44, eB b8 (cT v_.Token)] _ := hS.sel [0, 1] rfl
  obtain ⟨z46, hz, hm⟩ := bindE hm
  refine w_cut (fun a' w' => ∃ (g173 : Gh), Fr 82 [(4, [], vL g173 z46)] a' ∧ SH M X w [eO 57 tyVal z46 g173, eB b8 (cT v_.Token)] w') ?_ ?_
  ·replace hm := hz
   refine s_reg [(vU v_.Token.Kind)] [3, 4, 23] (fS [3, 4, 23] [vP b8, vL g44 z15, vU v_.Token.Kind]) [rA b8 0 (vU v_.Token.Kind)] H (by kernel_rfl) ⟨((hS.bk 1 rfl).at1 rfl), trivial⟩ fun _ _ H48 hb => ?_
   replace hS := hS.below hb
   clear H hb
   apply w_block
   refine s_reg [] [3, 4, 23, 24] (fS [3, 4, 23, 24] [vP b8, vL g44 z15, vU v_.Token.Kind, vB (v_.Token.Kind == 1)]) [] H48 (by kernel_rfl) trivial fun _ _ H50 hb => ?_
   replace hS := hS.below hb
   clear H48 hb
   refine w_if H50 rfl (fun hc => ?c172) (fun hc => ?_)
   case c172 =>
    replace hm := bT hc hm
    obtain ⟨y51, hy51, hm⟩ := bindE hm
    refine s_reg [(vS v_.Token.Text), (vS y51)] [4, 7] (fS [4, 7] [vL g44 z15, vS y51]) [rA b8 1 (vS v_.Token.Text), rB 69 [vS v_.Token.Text] (vS y51)] H50 (by kernel_rfl) ⟨((hS.bk 1 rfl).at1 rfl), ((parseval_small_ok m _ _ hy51).b), trivial⟩ fun _ _ H53 hb => ?_
    replace hS := hS.below hb
    clear H50 hb
    apply w_seq
    apply wl_start
    refine wl_batch 0 3 [] [7, 29, 31] (fS [7, 29, 31] [vS y51, vL g44 z15, vG [vU 1, vS y51, vI 0, vU 0, vU 0, vU 0, vU 0]]) [] H53 (by decide) (by kernel_rfl) trivial fun _ _ H55 hb => ?_
    replace hS := hS.below hb
    clear H53 hb
    have hd := hS.hand [] [0, 1] rfl rfl
    refine m_stp [32, 7, 29] (fS [7, 29] [vS y51, vL g44 z15]) H55 rfl rfl rfl rfl (o_lit (T := tyVal) (E := 57) (zv := vG [vU 0, vN, vI 0, vU 0, vU 0, vU 0, vU 0]) [vU 1, vS y51, vI 0, vU 0, vU 0, vU 0, vU 0] ([(TVal.mk 1 y51 0 (TColor.mk 0 0 0 0))] : List TVal) [gL []] _ H55 hd rfl (by kernel_rfl) (by kernel_rfl) (by kernel_rfl) (by kernel_rfl) (by kernel_rfl) (by kernel_rfl) (by kernel_rfl) rfl (InnL.cons trivial InnL.nil)) (fun _ => rfl) fun _ _ v H59 hq => ?_
    clear H55 hd
    obtain ⟨g56, rfl, hq⟩ := hq
    replace hS : SH M X w [eO 57 tyVal ([(TVal.mk 1 y51 0 (TColor.mk 0 0 0 0))] : List TVal) g56, eO 57 tyVal z15 g44, eB b8 (cT v_.Token)] _ := hS.join [] [0, 1] rfl rfl hq
    clear hq
    obtain ⟨ho60, hm⟩ := chkE hm
    obtain ⟨q61, hq61, hm⟩ := letE hm
    have hd := hS.hand [1, 0] [2] rfl rfl
    refine m_stp [33, 7] [(7, [], vS y51)] H59 rfl rfl rfl rfl (o_app2 (T := tyVal) (zv := vG [vU 0, vN, vI 0, vU 0, vU 0, vU 0, vU 0]) (g1 := g44) (g2 := g56) (l1 := z15) (l2 := ([(TVal.mk 1 y51 0 (TColor.mk 0 0 0 0))] : List TVal)) q61 hq61.symm H59 hd rfl rfl rfl rfl rfl rfl rfl (by kernel_rfl) (by kernel_rfl) rfl rfl ho60) (fun _ => rfl) fun _ _ v H63 hq => ?_
    clear H59 hd
    obtain ⟨g64, rfl, hq⟩ := hq
    replace hS : SH M X w [eO 57 tyVal q61 g64, eO 57 tyVal ([(TVal.mk 1 y51 0 (TColor.mk 0 0 0 0))] : List TVal) g56, eB b8 (cT v_.Token)] _ := hS.join [1, 0] [2] rfl rfl hq
    clear hq
    refine wl_batch 5 6 [] [4, 7] (fS [4, 7] [vL g64 q61, vS y51]) [] H63 (by decide) (by kernel_rfl) trivial fun _ _ H66 hb => ?_
    replace hS := hS.below hb
    clear H63 hb
    apply wl_end rfl
    replace hS : SH M X w [eO 57 tyVal q61 g64, eB b8 (cT v_.Token)] _ := hS.sel [0, 2] rfl
    obtain ⟨x67, hx67, hm⟩ := letE hm
    refine s_reg [] [4, 35] (fS [4, 35] [vL g64 q61, vB x67]) [] H66 (by subst hx67; kernel_rfl) trivial fun _ _ H69 hb => ?_
    replace hS := hS.below hb
    clear H66 hb
    refine w_if H69 rfl (fun hc => ?_) (fun hc => ?c83)
    case c83 =>
     replace hm := bF hc hm
     apply w_skip
     obtain rfl := someE hm
     exact ⟨g64, FrG.keep (ks := [4]) H69 (by kernel_rfl), hS⟩
    replace hm := bT hc hm
    apply wl_start
    refine wl_batch 0 2 [] [36, 37] (fS [36, 37] [vL g64 q61, vG [vU 8, vN, vI 0, vU 0, vU 0, vU 0, vU 0]]) [] H69 (by decide) (by kernel_rfl) trivial fun _ _ H71 hb => ?_
    replace hS := hS.below hb
    clear H69 hb
    have hd := hS.hand [] [0, 1] rfl rfl
    refine m_stp [38, 36] [(36, [], vL g64 q61)] H71 rfl rfl rfl rfl (o_lit (T := tyVal) (E := 57) (zv := vG [vU 0, vN, vI 0, vU 0, vU 0, vU 0, vU 0]) [vU 8, vN, vI 0, vU 0, vU 0, vU 0, vU 0] ([(TVal.mk 8 [] 0 (TColor.mk 0 0 0 0))] : List TVal) [gL []] _ H71 hd rfl (by kernel_rfl) (by kernel_rfl) (by kernel_rfl) (by kernel_rfl) (by kernel_rfl) (by kernel_rfl) (by kernel_rfl) rfl (InnL.cons trivial InnL.nil)) (fun _ => rfl) fun _ _ v H75 hq => ?_
    clear H71 hd
    obtain ⟨g72, rfl, hq⟩ := hq
    replace hS : SH M X w [eO 57 tyVal ([(TVal.mk 8 [] 0 (TColor.mk 0 0 0 0))] : List TVal) g72, eO 57 tyVal q61 g64, eB b8 (cT v_.Token)] _ := hS.join [] [0, 1] rfl rfl hq
    clear hq
    obtain ⟨ho76, hm⟩ := chkE hm
    obtain ⟨q77, hq77, hm⟩ := letE hm
    have hd := hS.hand [1, 0] [2] rfl rfl
    refine m_stp [39] [] H75 rfl rfl rfl rfl (o_app2 (T := tyVal) (zv := vG [vU 0, vN, vI 0, vU 0, vU 0, vU 0, vU 0]) (g1 := g64) (g2 := g72) (l1 := q61) (l2 := ([(TVal.mk 8 [] 0 (TColor.mk 0 0 0 0))] : List TVal)) q77 hq77.symm H75 hd rfl rfl rfl rfl rfl rfl rfl (by kernel_rfl) (by kernel_rfl) rfl rfl ho76) (fun _ => rfl) fun _ _ v H79 hq => ?_
    clear H75 hd
    obtain ⟨g80, rfl, hq⟩ := hq
    replace hS : SH M X w [eO 57 tyVal q77 g80, eO 57 tyVal ([(TVal.mk 8 [] 0 (TColor.mk 0 0 0 0))] : List TVal) g72, eB b8 (cT v_.Token)] _ := hS.join [1, 0] [2] rfl rfl hq
    clear hq
    refine wl_batch 4 5 [] [4] [(4, [], vL g80 q77)] [] H79 (by decide) (by kernel_rfl) trivial fun _ _ H82 hb => ?_
    replace hS := hS.below hb
    clear H79 hb
    apply wl_end rfl
    replace hS : SH M X w [eO 57 tyVal q77 g80, eB b8 (cT v_.Token)] _ := hS.sel [0, 2] rfl
    obtain rfl := someE hm
    exact ⟨g80, FrG.keep (ks := [4]) H82 (by kernel_rfl), hS⟩
   replace hm := bF hc hm
   refine s_reg [] [3, 4, 23, 40] (fS [3, 4, 23, 40] [vP b8, vL g44 z15, vU v_.Token.Kind, vB (v_.Token.Kind == 12)]) [] H50 (by kernel_rfl) trivial fun _ _ H85 hb => ?_
   replace hS := hS.below hb
   clear H50 hb
   refine w_if H85 rfl (fun hc => ?c171) (fun hc => ?_)
   case c171 =>
    replace hm := bT hc hm
    apply w_seq
    apply wl_start
    have hd := hS.hand [] [0, 1] rfl rfl
    refine m_stp [42, 3, 4] (fS [3, 4] [vP b8, vL g44 z15]) H85 rfl rfl rfl rfl (o_mkmap hd) (fun _ => rfl) fun _ _ v H88 hq => ?_
    clear H85 hd
    obtain ⟨b86, rfl, hq⟩ := hq
    replace hS : SH M X w [Ent.mpo b86 [], eO 57 tyVal z15 g44, eB b8 (cT v_.Token)] _ := hS.join [] [0, 1] rfl rfl hq
    clear hq
    have hd := hS.hand [0] [1, 2] rfl rfl
    refine m_stp0 [3, 4, 42] (fS [3, 4, 42] [vP b8, vL g44 z15, .map (some b86)]) H88 rfl rfl rfl (o_ins (kt := 9) (et := 5) H88 hd rfl rfl rfl (by kernel_rfl) (by kernel_rfl) rfl) rfl fun _ _ H90 hq => ?_
    clear H88 hd
    obtain ⟨_, hq⟩ := hq
    replace hS : SH M X w [Ent.mpo b86 [([112, 120], vU 2)], eO 57 tyVal z15 g44, eB b8 (cT v_.Token)] _ := hS.join [0] [1, 2] rfl rfl hq
    clear hq
    have hd := hS.hand [0] [1, 2] rfl rfl
    refine m_stp0 [3, 4, 42] (fS [3, 4, 42] [vP b8, vL g44 z15, .map (some b86)]) H90 rfl rfl rfl (o_ins (kt := 9) (et := 5) H90 hd rfl rfl rfl (by kernel_rfl) (by kernel_rfl) rfl) rfl fun _ _ H92 hq => ?_
    clear H90 hd
    obtain ⟨_, hq⟩ := hq
    replace hS : SH M X w [Ent.mpo b86 [([112, 120], vU 2), ([101, 109], vU 3)], eO 57 tyVal z15 g44, eB b8 (cT v_.Token)] _ := hS.join [0] [1, 2] rfl rfl hq
    clear hq
    have hd := hS.hand [0] [1, 2] rfl rfl
    refine m_stp0 [3, 4, 42] (fS [3, 4, 42] [vP b8, vL g44 z15, .map (some b86)]) H92 rfl rfl rfl (o_ins (kt := 9) (et := 5) H92 hd rfl rfl rfl (by kernel_rfl) (by kernel_rfl) rfl) rfl fun _ _ H94 hq => ?_
    clear H92 hd
    obtain ⟨_, hq⟩ := hq
    replace hS : SH M X w [Ent.mpo b86 [([112, 120], vU 2), ([101, 109], vU 3), ([114, 101, 109], vU 4)], eO 57 tyVal z15 g44, eB b8 (cT v_.Token)] _ := hS.join [0] [1, 2] rfl rfl hq
    clear hq
    obtain ⟨y95, hy95, hm⟩ := bindE hm
    refine wl_batch 4 8 [(vS v_.Token.Unit), (vS y95)] [3, 4, 43, 46] (fS [3, 4, 43, 46] [vP b8, vL g44 z15, .map (some b86), vS y95]) [rA b8 3 (vS v_.Token.Unit), rB 69 [vS v_.Token.Unit] (vS y95)] H94 (by decide) (by kernel_rfl) ⟨((hS.bk 2 rfl).at1 rfl), ((parseval_small_ok m _ _ hy95).b), trivial⟩ fun _ _ H97 hb => ?_
    replace hS := hS.below hb
    clear H94 hb
    obtain ⟨x98, hx98, hm⟩ := letE hm
    have hd := hS.hand [0] [1, 2] rfl rfl
    refine m_stp [47, 3, 4] (fS [3, 4] [vP b8, vL g44 z15]) H97 rfl rfl rfl rfl (o_look (kt := 9) (et := 5) (z := vU 0) (ix := x98) (fun q => vU (gi kL8 q)) (vU (gi kL8 x98)) H97 hd hx98 rfl rfl rfl (by kernel_rfl) (by kernel_rfl) (by kernel_rfl) rfl) (fun _ => rfl) fun _ _ v H100 hq => ?_
    clear H97 hd
    obtain ⟨rfl, hq⟩ := hq
    replace hS : SH M X w [Ent.mpo b86 [([112, 120], vU 2), ([101, 109], vU 3), ([114, 101, 109], vU 4)], eO 57 tyVal z15 g44, eB b8 (cT v_.Token)] _ := hS.join [0] [1, 2] rfl rfl hq
    clear hq
    refine wl_batch 9 10 [] [3, 4, 8] (fS [3, 4, 8] [vP b8, vL g44 z15, vU (gi kL8 x98)]) [] H100 (by decide) (by kernel_rfl) trivial fun _ _ H102 hb => ?_
    replace hS := hS.below hb
    clear H100 hb
    apply wl_end rfl
    replace hS : SH M X w [eO 57 tyVal z15 g44, eB b8 (cT v_.Token)] _ := hS.sel [1, 2] rfl
    obtain ⟨x103, hx103, hm⟩ := letE hm
    refine s_reg [] [3, 4, 8, 49] (fS [3, 4, 8, 49] [vP b8, vL g44 z15, vU (gi kL8 x98), vB x103]) [] H102 (by subst hx103; kernel_rfl) trivial fun _ _ H105 hb => ?_
    replace hS := hS.below hb
    clear H102 hb
    refine w_if H105 rfl (fun hc => ?_) (fun hc => ?c119)
    case c119 =>
     replace hm := bF hc hm
     apply w_skip
     obtain rfl := someE hm
     exact ⟨g44, FrG.keep (ks := [4]) H105 (by kernel_rfl), hS⟩
    replace hm := bT hc hm
    apply wl_start
    refine wl_batch 0 5 [(vI v_.Token.Num)] [50, 54] (fS [50, 54] [vL g44 z15, vG [vU (gi kL8 x98), vN, vI v_.Token.Num, vU 0, vU 0, vU 0, vU 0]]) [rA b8 2 (vI v_.Token.Num)] H105 (by decide) (by kernel_rfl) ⟨((hS.bk 1 rfl).at1 rfl), trivial⟩ fun _ _ H107 hb => ?_
    replace hS := hS.below hb
    clear H105 hb
    have hd := hS.hand [] [0, 1] rfl rfl
    refine m_stp [55, 50] [(50, [], vL g44 z15)] H107 rfl rfl rfl rfl (o_lit (T := tyVal) (E := 57) (zv := vG [vU 0, vN, vI 0, vU 0, vU 0, vU 0, vU 0]) [vU (gi kL8 x98), vN, vI v_.Token.Num, vU 0, vU 0, vU 0, vU 0] ([(TVal.mk (gi kL8 x98) [] v_.Token.Num (TColor.mk 0 0 0 0))] : List TVal) [gL []] _ H107 hd rfl (by kernel_rfl) (by kernel_rfl) (by kernel_rfl) (by kernel_rfl) (by kernel_rfl) (by kernel_rfl) (by kernel_rfl) rfl (InnL.cons trivial InnL.nil)) (fun _ => rfl) fun _ _ v H111 hq => ?_
    clear H107 hd
    obtain ⟨g108, rfl, hq⟩ := hq
    replace hS : SH M X w [eO 57 tyVal ([(TVal.mk (gi kL8 x98) [] v_.Token.Num (TColor.mk 0 0 0 0))] : List TVal) g108, eO 57 tyVal z15 g44, eB b8 (cT v_.Token)] _ := hS.join [] [0, 1] rfl rfl hq
    clear hq
    obtain ⟨ho112, hm⟩ := chkE hm
    obtain ⟨q113, hq113, hm⟩ := letE hm
    have hd := hS.hand [1, 0] [2] rfl rfl
    refine m_stp [56] [] H111 rfl rfl rfl rfl (o_app2 (T := tyVal) (zv := vG [vU 0, vN, vI 0, vU 0, vU 0, vU 0, vU 0]) (g1 := g44) (g2 := g108) (l1 := z15) (l2 := ([(TVal.mk (gi kL8 x98) [] v_.Token.Num (TColor.mk 0 0 0 0))] : List TVal)) q113 hq113.symm H111 hd rfl rfl rfl rfl rfl rfl rfl (by kernel_rfl) (by kernel_rfl) rfl rfl ho112) (fun _ => rfl) fun _ _ v H115 hq => ?_
    clear H111 hd
    obtain ⟨g116, rfl, hq⟩ := hq
    replace hS : SH M X w [eO 57 tyVal q113 g116, eO 57 tyVal ([(TVal.mk (gi kL8 x98) [] v_.Token.Num (TColor.mk 0 0 0 0))] : List TVal) g108, eB b8 (cT v_.Token)] _ := hS.join [1, 0] [2] rfl rfl hq
    clear hq
    refine wl_batch 7 8 [] [4] [(4, [], vL g116 q113)] [] H115 (by decide) (by kernel_rfl) trivial fun _ _ H118 hb => ?_
    replace hS := hS.below hb
    clear H115 hb
    apply wl_end rfl
    replace hS : SH M X w [eO 57 tyVal q113 g116, eB b8 (cT v_.Token)] _ := hS.sel [0, 2] rfl
    obtain rfl := someE hm
    exact ⟨g116, FrG.keep (ks := [4]) H118 (by kernel_rfl), hS⟩
   replace hm := bF hc hm
   refine s_reg [] [3, 4, 57] (fS [3, 4, 57] [vP b8, vL g44 z15, vB (v_.Token.Kind == 10)]) [] H85 (by kernel_rfl) trivial fun _ _ H121 hb => ?_
   replace hS := hS.below hb
   clear H85 hb
   refine w_if H121 rfl (fun hc => ?_) (fun hc => ?c170)
   case c170 =>
    replace hm := bF hc hm
    apply w_skip
    obtain rfl := someE hm
    exact ⟨g44, FrG.keep (ks := [4]) H121 (by kernel_rfl), hS⟩
   replace hm := bT hc hm
   obtain ⟨z122, hz, hm⟩ := bindE hm
   refine w_cut (fun a' w' => ∃ (g139 : Gh), Fr 82 (fS [3, 4] [vP b8, vL g139 z122]) a' ∧ SH M X w [eO 57 tyVal z122 g139, eB b8 (cT v_.Token)] w') ?_ ?_
   ·replace hm := hz
    refine s_reg [(vB v_.Token.Flag)] [3, 4, 60] (fS [3, 4, 60] [vP b8, vL g44 z15, vB v_.Token.Flag]) [rA b8 4 (vB v_.Token.Flag)] H121 (by kernel_rfl) ⟨((hS.bk 1 rfl).at1 rfl), trivial⟩ fun _ _ H124 hb => ?_
    replace hS := hS.below hb
    clear H121 hb
    refine w_if H124 rfl (fun hc => ?_) (fun hc => ?c138)
    case c138 =>
     replace hm := bF hc hm
     apply w_skip
     obtain rfl := someE hm
     exact ⟨g44, FrG.keep (ks := [3, 4]) H124 (by kernel_rfl), hS⟩
    replace hm := bT hc hm
    apply wl_start
    refine wl_batch 0 5 [(vI v_.Token.Num)] [3, 61, 65] (fS [3, 61, 65] [vP b8, vL g44 z15, vG [vU 6, vN, vI (w64 (Int.tdiv v_.Token.Num 1000)), vU 0, vU 0, vU 0, vU 0]]) [rA b8 2 (vI v_.Token.Num), fun _ => (1000 : Int) ≠ 0] H124 (by decide) (by kernel_rfl) ⟨((hS.bk 1 rfl).at1 rfl), (by show (1000 : Int) ≠ 0; decide), trivial⟩ fun _ _ H126 hb => ?_
    replace hS := hS.below hb
    clear H124 hb
    have hd := hS.hand [] [0, 1] rfl rfl
    refine m_stp [66, 3, 61] (fS [3, 61] [vP b8, vL g44 z15]) H126 rfl rfl rfl rfl (o_lit (T := tyVal) (E := 57) (zv := vG [vU 0, vN, vI 0, vU 0, vU 0, vU 0, vU 0]) [vU 6, vN, vI (w64 (Int.tdiv v_.Token.Num 1000)), vU 0, vU 0, vU 0, vU 0] ([(TVal.mk 6 [] (w64 (Int.tdiv v_.Token.Num 1000)) (TColor.mk 0 0 0 0))] : List TVal) [gL []] _ H126 hd rfl (by kernel_rfl) (by kernel_rfl) (by kernel_rfl) (by kernel_rfl) (by kernel_rfl) (by kernel_rfl) (by kernel_rfl) rfl (InnL.cons trivial InnL.nil)) (fun _ => rfl) fun _ _ v H130 hq => ?_
    clear H126 hd
    obtain ⟨g127, rfl, hq⟩ := hq
    replace hS : SH M X w [eO 57 tyVal ([(TVal.mk 6 [] (w64 (Int.tdiv v_.Token.Num 1000)) (TColor.mk 0 0 0 0))] : List TVal) g127, eO 57 tyVal z15 g44, eB b8 (cT v_.Token)] _ := hS.join [] [0, 1] rfl rfl hq
    clear hq
    obtain ⟨ho131, hm⟩ := chkE hm
    obtain ⟨q132, hq132, hm⟩ := letE hm
    have hd := hS.hand [1, 0] [2] rfl rfl
    refine m_stp [67, 3] [(3, [], vP b8)] H130 rfl rfl rfl rfl (o_app2 (T := tyVal) (zv := vG [vU 0, vN, vI 0, vU 0, vU 0, vU 0, vU 0]) (g1 := g44) (g2 := g127) (l1 := z15) (l2 := ([(TVal.mk 6 [] (w64 (Int.tdiv v_.Token.Num 1000)) (TColor.mk 0 0 0 0))] : List TVal)) q132 hq132.symm H130 hd rfl rfl rfl rfl rfl rfl rfl (by kernel_rfl) (by kernel_rfl) rfl rfl ho131) (fun _ => rfl) fun _ _ v H134 hq => ?_
    clear H130 hd
    obtain ⟨g135, rfl, hq⟩ := hq
    replace hS : SH M X w [eO 57 tyVal q132 g135, eO 57 tyVal ([(TVal.mk 6 [] (w64 (Int.tdiv v_.Token.Num 1000)) (TColor.mk 0 0 0 0))] : List TVal) g127, eB b8 (cT v_.Token)] _ := hS.join [1, 0] [2] rfl rfl hq
    clear hq
    refine wl_batch 7 8 [] [3, 4] (fS [3, 4] [vP b8, vL g135 q132]) [] H134 (by decide) (by kernel_rfl) trivial fun _ _ H137 hb => ?_
    replace hS := hS.below hb
    clear H134 hb
    apply wl_end rfl
    replace hS : SH M X w [eO 57 tyVal q132 g135, eB b8 (cT v_.Token)] _ := hS.sel [0, 2] rfl
    obtain rfl := someE hm
    exact ⟨g135, FrG.keep (ks := [3, 4]) H137 (by kernel_rfl), hS⟩
   ·rintro _ _ ⟨g139, H, hS⟩
    apply w_seq
    apply wl_start
    refine wl_batch 0 4 [(vI v_.Token.Num)] [3, 68, 71] (fS [3, 68, 71] [vP b8, vL g139 z122, vG [vU 5, vN, vI v_.Token.Num, vU 0, vU 0, vU 0, vU 0]]) [rA b8 2 (vI v_.Token.Num)] H (by decide) (by kernel_rfl) ⟨((hS.bk 1 rfl).at1 rfl), trivial⟩ fun _ _ H141 hb => ?_
    replace hS := hS.below hb
    clear H hb
    have hd := hS.hand [] [0, 1] rfl rfl
    refine m_stp [72, 3, 68] (fS [3, 68] [vP b8, vL g139 z122]) H141 rfl rfl rfl rfl (o_lit (T := tyVal) (E := 57) (zv := vG [vU 0, vN, vI 0, vU 0, vU 0, vU 0, vU 0]) [vU 5, vN, vI v_.Token.Num, vU 0, vU 0, vU 0, vU 0] ([(TVal.mk 5 [] v_.Token.Num (TColor.mk 0 0 0 0))] : List TVal) [gL []] _ H141 hd rfl (by kernel_rfl) (by kernel_rfl) (by kernel_rfl) (by kernel_rfl) (by kernel_rfl) (by kernel_rfl) (by kernel_rfl) rfl (InnL.cons trivial InnL.nil)) (fun _ => rfl) fun _ _ v H145 hq => ?_
    clear H141 hd
    obtain ⟨g142, rfl, hq⟩ := hq
    replace hS : SH M X w [eO 57 tyVal ([(TVal.mk 5 [] v_.Token.Num (TColor.mk 0 0 0 0))] : List TVal) g142, eO 57 tyVal z122 g139, eB b8 (cT v_.Token)] _ := hS.join [] [0, 1] rfl rfl hq
    clear hq
    obtain ⟨ho146, hm⟩ := chkE hm
    obtain ⟨q147, hq147, hm⟩ := letE hm
    have hd := hS.hand [1, 0] [2] rfl rfl
    refine m_stp [73, 3] [(3, [], vP b8)] H145 rfl rfl rfl rfl (o_app2 (T := tyVal) (zv := vG [vU 0, vN, vI 0, vU 0, vU 0, vU 0, vU 0]) (g1 := g139) (g2 := g142) (l1 := z122) (l2 := ([(TVal.mk 5 [] v_.Token.Num (TColor.mk 0 0 0 0))] : List TVal)) q147 hq147.symm H145 hd rfl rfl rfl rfl rfl rfl rfl (by kernel_rfl) (by kernel_rfl) rfl rfl ho146) (fun _ => rfl) fun _ _ v H149 hq => ?_
    clear H145 hd
    obtain ⟨g150, rfl, hq⟩ := hq
    replace hS : SH M X w [eO 57 tyVal q147 g150, eO 57 tyVal ([(TVal.mk 5 [] v_.Token.Num (TColor.mk 0 0 0 0))] : List TVal) g142, eB b8 (cT v_.Token)] _ := hS.join [1, 0] [2] rfl rfl hq
    clear hq
    refine wl_batch 6 7 [] [3, 4] (fS [3, 4] [vP b8, vL g150 q147]) [] H149 (by decide) (by kernel_rfl) trivial fun _ _ H152 hb => ?_
    replace hS := hS.below hb
    clear H149 hb
    apply wl_end rfl
    replace hS : SH M X w [eO 57 tyVal q147 g150, eB b8 (cT v_.Token)] _ := hS.sel [0, 2] rfl
    refine s_reg [(vI v_.Token.Num)] [4, 76] (fS [4, 76] [vL g150 q147, vB (v_.Token.Num == 0)]) [rA b8 2 (vI v_.Token.Num)] H152 (by kernel_rfl) ⟨((hS.bk 1 rfl).at1 rfl), trivial⟩ fun _ _ H154 hb => ?_
    replace hS := hS.below hb
    clear H152 hb
    refine w_if H154 rfl (fun hc => ?_) (fun hc => ?c168)
    case c168 =>
     replace hm := bF hc hm
     apply w_skip
     obtain rfl := someE hm
     exact ⟨g150, FrG.keep (ks := [4]) H154 (by kernel_rfl), hS⟩
    replace hm := bT hc hm
    apply wl_start
    refine wl_batch 0 2 [] [77, 78] (fS [77, 78] [vL g150 q147, vG [vU 2, vN, vI 0, vU 0, vU 0, vU 0, vU 0]]) [] H154 (by decide) (by kernel_rfl) trivial fun _ _ H156 hb => ?_
    replace hS := hS.below hb
    clear H154 hb
    have hd := hS.hand [] [0, 1] rfl rfl
    refine m_stp [79, 77] [(77, [], vL g150 q147)] H156 rfl rfl rfl rfl (o_lit (T := tyVal) (E := 57) (zv := vG [vU 0, vN, vI 0, vU 0, vU 0, vU 0, vU 0]) [vU 2, vN, vI 0, vU 0, vU 0, vU 0, vU 0] ([(TVal.mk 2 [] 0 (TColor.mk 0 0 0 0))] : List TVal) [gL []] _ H156 hd rfl (by kernel_rfl) (by kernel_rfl) (by kernel_rfl) (by kernel_rfl) (by kernel_rfl) (by kernel_rfl) (by kernel_rfl) rfl (InnL.cons trivial InnL.nil)) (fun _ => rfl) fun _ _ v H160 hq => ?_
    clear H156 hd
    obtain ⟨g157, rfl, hq⟩ := hq
    replace hS : SH M X w [eO 57 tyVal ([(TVal.mk 2 [] 0 (TColor.mk 0 0 0 0))] : List TVal) g157, eO 57 tyVal q147 g150, eB b8 (cT v_.Token)] _ := hS.join [] [0, 1] rfl rfl hq
    clear hq
    obtain ⟨ho161, hm⟩ := chkE hm
    obtain ⟨q162, hq162, hm⟩ := letE hm
    have hd := hS.hand [1, 0] [2] rfl rfl
    refine m_stp [80] [] H160 rfl rfl rfl rfl (o_app2 (T := tyVal) (zv := vG [vU 0, vN, vI 0, vU 0, vU 0, vU 0, vU 0]) (g1 := g150) (g2 := g157) (l1 := q147) (l2 := ([(TVal.mk 2 [] 0 (TColor.mk 0 0 0 0))] : List TVal)) q162 hq162.symm H160 hd rfl rfl rfl rfl rfl rfl rfl (by kernel_rfl) (by kernel_rfl) rfl rfl ho161) (fun _ => rfl) fun _ _ v H164 hq => ?_
    clear H160 hd
    obtain ⟨g165, rfl, hq⟩ := hq
    replace hS : SH M X w [eO 57 tyVal q162 g165, eO 57 tyVal ([(TVal.mk 2 [] 0 (TColor.mk 0 0 0 0))] : List TVal) g157, eB b8 (cT v_.Token)] _ := hS.join [1, 0] [2] rfl rfl hq
    clear hq
    refine wl_batch 4 5 [] [4] [(4, [], vL g165 q162)] [] H164 (by decide) (by kernel_rfl) trivial fun _ _ H167 hb => ?_
    replace hS := hS.below hb
    clear H164 hb
    apply wl_end rfl
    replace hS : SH M X w [eO 57 tyVal q162 g165, eB b8 (cT v_.Token)] _ := hS.sel [0, 2] rfl
    obtain rfl := someE hm
    exact ⟨g165, FrG.keep (ks := [4]) H167 (by kernel_rfl), hS⟩
  ·rintro _ _ ⟨g173, H, hS⟩
   replace hS : SH M X w [eO 57 tyVal z46 g173] _ := hS.sel [0] rfl
   refine s_reg [] [2] [(2, [], vL g173 z46)] [] H (by kernel_rfl) trivial fun _ _ H175 hb => ?_
   replace hS := hS.below hb
   clear H hb
   apply w_ret
   obtain rfl := someE hm
   exact retR1 H175 rfl rfl ⟨_, rfl, g173, rfl, (hS.sel [0] rfl)⟩
theorem parseval_maybe_ok {g_v__0 : Gh} (m : Nat) (v_ : TValue) (r : List TVal) (hm : parseval_maybe m v_ = some r) (M : Av) (w : World) (hS : S0 M [eI tyValue v_.List_ g_v__0] w) : DoesX Tryz.prog 46 ⟨[vG [vU v_.Token.Kind, vS v_.Token.Text, vI v_.Token.Num, vS v_.Token.Unit, vB v_.Token.Flag, vL g_v__0 v_.List_]]⟩ w (fun v w' => ∃ (g901 : Gh), v = vL g901 r ∧ SH M (fpl [eI tyValue v_.List_ g_v__0]) w [eO 57 tyVal r g901] w') := ⟨Tryz.call46 _, parseval_maybe_w M m   v_ r hm w hS⟩

theorem props_Check_w  (M : Av) (v_ : TVal) (r : Int) (hm : props_Check v_ = some r) (w : World) (hS : S0 M [] w) : Calls Tryz.prog 70 ⟨[vG (cV v_)]⟩ w (fun e w' => ∃ v, e = .returned v ∧ v = vI r ∧ SH M (fpl []) w [] w') := by
 rw [props_Check] at hm
 have hS0 : SH M (fpl []) w [] w := hS
 generalize hX : fpl [] = X at hS0 ⊢
 clear hS hX
 have hS := hS0
 clear hS0
 refine calls_entryP Tryz.func70 rfl Tryz.ntmps70 rfl fun _ H => ?_
 apply w_seq
 apply wl_start
 have hd := hS.hand [] [] rfl rfl
 refine m_stp [1] [] H rfl rfl rfl rfl (o_box (cV v_) H hd rfl rfl) (fun _ => rfl) fun _ _ v H3 hq => ?_
 clear H hd
 obtain ⟨b1, rfl, hq⟩ := hq
 replace hS : SH M X w [eB b1 (cV v_)] _ := hS.join [] [] rfl rfl hq
 clear hq
 refine wl_batch 1 2 [] [1] [(1, [], vP b1)] [] H3 (by decide) (by kernel_rfl) trivial fun _ _ H5 hb => ?_
 replace hS := hS.below hb
 clear H3 hb
 apply wl_end rfl
 apply w_seq
 apply wl_start
 refine wl_batch 0 3 [(vU v_.Kind)] [1, 7] (fS [1, 7] [vP b1, vG [vU v_.Kind, vN, vI 0, vU 0, vU 0, vU 0, vU 0]]) [rA b1 0 (vU v_.Kind)] H5 (by decide) (by kernel_rfl) ⟨((hS.bk 0 rfl).at1 rfl), trivial⟩ fun _ _ H7 hb => ?_
 replace hS := hS.below hb
 clear H5 hb
 have hd := hS.hand [] [0] rfl rfl
 refine m_stp [3, 1, 7] (fS [1, 7] [vP b1, vG [vU v_.Kind, vN, vI 0, vU 0, vU 0, vU 0, vU 0]]) H7 rfl rfl rfl rfl (o_alloc [vU 0, vN, vI 0, vU 0, vU 0, vU 0, vU 0] (z := vG [vU 0, vN, vI 0, vU 0, vU 0, vU 0, vU 0]) hd (by kernel_rfl) rfl) (fun _ => rfl) fun _ _ v H10 hq => ?_
 clear H7 hd
 obtain ⟨b8, rfl, hq⟩ := hq
 replace hS : SH M X w [eB b8 [vU 0, vN, vI 0, vU 0, vU 0, vU 0, vU 0], eB b1 (cV v_)] _ := hS.join [] [0] rfl rfl hq
 clear hq
 have hd := hS.hand [0] [1] rfl rfl
 refine m_stp0 [1, 3] (fS [1, 3] [vP b1, vP b8]) H10 rfl rfl rfl (o_store [vU v_.Kind, vN, vI 0, vU 0, vU 0, vU 0, vU 0] H10 hd rfl rfl (by kernel_rfl) rfl rfl rfl) rfl fun _ _ H12 hq => ?_
 clear H10 hd
 obtain ⟨_, hq⟩ := hq
 replace hS : SH M X w [eB b8 [vU v_.Kind, vN, vI 0, vU 0, vU 0, vU 0, vU 0], eB b1 (cV v_)] _ := hS.join [0] [1] rfl rfl hq
 clear hq
 apply wl_end rfl
 refine s_reg [] [1, 3, 4] (fS [1, 3, 4] [vP b1, vP b8, vI 1000000000000]) [] H12 (by kernel_rfl) trivial fun _ _ H14 hb => ?_
 replace hS := hS.below hb
 clear H12 hb
 obtain ⟨z15, hz, hm_z15⟩ := bindE hm
 refine w_cut (fun a' w' => ∃ s_z15 : Str × Int × Int × Int × Int × Int, z15 = Sum.inr s_z15 ∧ Fr 52 (fS [1, 3] [vP b1, vP b8]) a' ∧ SH M X w [eB b8 [vU v_.Kind, vS s_z15.1, vI s_z15.2.2.2.2.2, vU s_z15.2.1, vU s_z15.2.2.1, vU s_z15.2.2.2.1, vU s_z15.2.2.2.2.1], eB b1 (cV v_)] w') ?_ ?_
 ·replace hm := hz
  refine s_reg [(vU v_.Kind)] [1, 3, 4, 9] (fS [1, 3, 4, 9] [vP b1, vP b8, vI 1000000000000, vU v_.Kind]) [rA b1 0 (vU v_.Kind)] H14 (by kernel_rfl) ⟨((hS.bk 1 rfl).at1 rfl), trivial⟩ fun _ _ H17 hb => ?_
  replace hS := hS.below hb
  clear H14 hb
  apply w_block
  apply w_seq
  apply w_block
  apply w_seq
  apply w_block
  apply w_seq
  apply w_block
  obtain ⟨z18, hz, hm_z18⟩ := bindE hm
  refine w_cut (fun a' w' => ∃ s_z18 : Int, z18 = Sum.inr s_z18 ∧ Fr 52 (fS [1, 3, 4] [vP b1, vP b8, vI s_z18]) a' ∧ SH M X w [eB b8 [vU v_.Kind, vN, vI 0, vU 0, vU 0, vU 0, vU 0], eB b1 (cV v_)] w') ?_ ?_
  ·replace hm := hz
   apply w_block
   apply w_seq
   apply w_block
   apply w_seq
   apply w_block
   apply w_seq
   apply w_seq
   refine s_reg [] [1, 3, 4, 9, 10] (fS [1, 3, 4, 9, 10] [vP b1, vP b8, vI 1000000000000, vU v_.Kind, vB (v_.Kind == 1)]) [] H17 (by kernel_rfl) trivial fun _ _ H20 hb => ?_
   replace hS := hS.below hb
   clear H17 hb
   refine w_if H20 rfl (fun hc => ?c60) (fun hc => ?_)
   case c60 =>
    replace hm := bT hc hm
    apply w_exit rfl
    apply w_seq
    apply wl_start
    refine wl_batch 0 3 [(vS v_.Word)] [1, 3, 24, 25] (fS [1, 3, 24, 25] [vP b1, vP b8, vS v_.Word, vA b8 1]) [rA b1 1 (vS v_.Word)] H20 (by decide) (by kernel_rfl) ⟨((hS.bk 1 rfl).at1 rfl), trivial⟩ fun _ _ H22 hb => ?_
    replace hS := hS.below hb
    clear H20 hb
    have hd := hS.hand [0] [1] rfl rfl
    refine m_stp0 [1, 3] (fS [1, 3] [vP b1, vP b8]) H22 rfl rfl rfl (o_store [vU v_.Kind, vS v_.Word, vI 0, vU 0, vU 0, vU 0, vU 0] H22 hd rfl rfl (by kernel_rfl) rfl rfl rfl) rfl fun _ _ H24 hq => ?_
    clear H22 hd
    obtain ⟨_, hq⟩ := hq
    replace hS : SH M X w [eB b8 [vU v_.Kind, vS v_.Word, vI 0, vU 0, vU 0, vU 0, vU 0], eB b1 (cV v_)] _ := hS.join [0] [1] rfl rfl hq
    clear hq
    apply wl_end rfl
    apply w_exit rfl
    obtain ⟨r25, hr_r25, hm⟩ := bindE hm
    obtain rfl := someE hm
    have hm := hm_z18
    obtain rfl := someE hm
    have hm := hr_r25
    clear hr_r25
    obtain rfl := someE hm
    exact ⟨_, rfl, FrG.keep (ks := [1, 3]) H24 (by kernel_rfl), hS⟩
   replace hm := bF hc hm
   apply w_skip
   apply w_seq
   refine s_reg [] [1, 3, 4, 9, 12] (fS [1, 3, 4, 9, 12] [vP b1, vP b8, vI 1000000000000, vU v_.Kind, vB (v_.Kind == 6)]) [] H20 (by kernel_rfl) trivial fun _ _ H27 hb => ?_
   replace hS := hS.below hb
   clear H20 hb
   refine w_if H27 rfl (fun hc => ?c59) (fun hc => ?_)
   case c59 =>
    replace hm := bT hc hm
    apply w_exit rfl
    refine w_reg [] [1, 3, 4] (fS [1, 3, 4] [vP b1, vP b8, vI (w64 (Int.tdiv 1000000000000 1000))]) [fun _ => (1000 : Int) ≠ 0] H27 (by kernel_rfl) ⟨(by show (1000 : Int) ≠ 0; decide), trivial⟩ fun _ _ H29 hb => ?_
    replace hS := hS.below hb
    clear H27 hb
    obtain rfl := someE hm
    exact ⟨_, rfl, FrG.keep (ks := [1, 3, 4]) H29 (by kernel_rfl), hS⟩
   replace hm := bF hc hm
   apply w_skip
   apply w_seq
   obtain ⟨z30, hz, hm⟩ := bindE hm
   refine w_cut (fun a' w' => Fr 52 (fS [1, 3, 4, 9, 14] [vP b1, vP b8, vI 1000000000000, vU v_.Kind, vB z30]) a' ∧ SH M X w [eB b8 [vU v_.Kind, vN, vI 0, vU 0, vU 0, vU 0, vU 0], eB b1 (cV v_)] w') ?_ ?_
   ·replace hm := hz
    refine s_reg [] [1, 3, 4, 9, 14] (fS [1, 3, 4, 9, 14] [vP b1, vP b8, vI 1000000000000, vU v_.Kind, vB (v_.Kind == 2)]) [] H27 (by kernel_rfl) trivial fun _ _ H32 hb => ?_
    replace hS := hS.below hb
    clear H27 hb
    refine w_if H32 rfl (fun hc => ?c41) (fun hc => ?_)
    case c41 =>
     replace hm := bT hc hm
     apply w_skip
     obtain rfl := someE hm
     exact ⟨FrG.keep (ks := [1, 3, 4, 9, 14]) H32 (by kernel_rfl), hS⟩
    replace hm := bF hc hm
    refine s_reg [] [1, 3, 4, 9, 14] (fS [1, 3, 4, 9, 14] [vP b1, vP b8, vI 1000000000000, vU v_.Kind, vB (v_.Kind == 3)]) [] H32 (by kernel_rfl) trivial fun _ _ H34 hb => ?_
    replace hS := hS.below hb
    clear H32 hb
    refine w_if H34 rfl (fun hc => ?c40) (fun hc => ?_)
    case c40 =>
     replace hm := bT hc hm
     apply w_skip
     obtain rfl := someE hm
     exact ⟨FrG.keep (ks := [1, 3, 4, 9, 14]) H34 (by kernel_rfl), hS⟩
    replace hm := bF hc hm
    refine s_reg [] [1, 3, 4, 9, 14] (fS [1, 3, 4, 9, 14] [vP b1, vP b8, vI 1000000000000, vU v_.Kind, vB (v_.Kind == 4)]) [] H34 (by kernel_rfl) trivial fun _ _ H36 hb => ?_
    replace hS := hS.below hb
    clear H34 hb
    refine w_if H36 rfl (fun hc => ?c39) (fun hc => ?_)
    case c39 =>
     replace hm := bT hc hm
     apply w_skip
     obtain rfl := someE hm
     exact ⟨FrG.keep (ks := [1, 3, 4, 9, 14]) H36 (by kernel_rfl), hS⟩
    replace hm := bF hc hm
    refine w_reg [] [1, 3, 4, 9, 14] (fS [1, 3, 4, 9, 14] [vP b1, vP b8, vI 1000000000000, vU v_.Kind, vB (v_.Kind == 5)]) [] H36 (by kernel_rfl) trivial fun _ _ H38 hb => ?_
    replace hS := hS.below hb
    clear H36 hb
    obtain rfl := someE hm
    exact ⟨FrG.keep (ks := [1, 3, 4, 9, 14]) H38 (by kernel_rfl), hS⟩
   ·rintro _ _ ⟨H, hS⟩
    refine w_if H rfl (fun hc => ?c57) (fun hc => ?_)
    case c57 =>
     replace hm := bT hc hm
     apply w_exit rfl
     obtain rfl := someE hm
     exact ⟨_, rfl, FrG.keep (ks := [1, 3, 4]) H (by kernel_rfl), hS⟩
    replace hm := bF hc hm
    apply w_skip
    apply w_seq
    refine s_reg [] [1, 3, 9, 19] (fS [1, 3, 9, 19] [vP b1, vP b8, vU v_.Kind, vB (v_.Kind == 7)]) [] H (by kernel_rfl) trivial fun _ _ H43 hb => ?_
    replace hS := hS.below hb
    clear H hb
    refine w_if H43 rfl (fun hc => ?c56) (fun hc => ?_)
    case c56 =>
     replace hm := bT hc hm
     apply w_exit rfl
     obtain ⟨r48, hr_r48, hm⟩ := bindE hm
     obtain rfl := someE hm
     have hm := hm_z18
     obtain rfl := someE hm
     have hm := hr_r48
     clear hr_r48
     apply w_seq
     apply wl_start
     refine wl_batch 0 3 [(vG (cC v_.Color))] [1, 3, 37, 38] (fS [1, 3, 37, 38] [vP b1, vP b8, vG (cC v_.Color), vA b8 3]) [rN b1 3 (cC v_.Color)] H43 (by decide) (by kernel_rfl) ⟨((hS.bk 1 rfl).atD rfl), trivial⟩ fun _ _ H45 hb => ?_
     replace hS := hS.below hb
     clear H43 hb
     have hd := hS.hand [0] [1] rfl rfl
     refine m_stp0 [1, 3] (fS [1, 3] [vP b1, vP b8]) H45 rfl rfl rfl (o_store [vU v_.Kind, vN, vI 0, vU v_.Color.Red, vU v_.Color.Green, vU v_.Color.Blue, vU v_.Color.Alpha] H45 hd rfl rfl (by kernel_rfl) rfl rfl rfl) rfl fun _ _ H47 hq => ?_
     clear H45 hd
     obtain ⟨_, hq⟩ := hq
     replace hS : SH M X w [eB b8 [vU v_.Kind, vN, vI 0, vU v_.Color.Red, vU v_.Color.Green, vU v_.Color.Blue, vU v_.Color.Alpha], eB b1 (cV v_)] _ := hS.join [0] [1] rfl rfl hq
     clear hq
     apply wl_end rfl
     apply w_exit rfl
     obtain rfl := someE hm
     exact ⟨_, rfl, FrG.keep (ks := [1, 3]) H47 (by kernel_rfl), hS⟩
    replace hm := bF hc hm
    apply w_skip
    refine s_reg [] [1, 3, 21] (fS [1, 3, 21] [vP b1, vP b8, vB (v_.Kind == 8)]) [] H43 (by kernel_rfl) trivial fun _ _ H50 hb => ?_
    replace hS := hS.below hb
    clear H43 hb
    refine w_if H50 rfl (fun hc => ?c55) (fun hc => ?_)
    case c55 =>
     replace hm := bT hc hm
     apply w_exit rfl
     obtain ⟨r51, hr_r51, hm⟩ := bindE hm
     obtain rfl := someE hm
     have hm := hm_z18
     obtain rfl := someE hm
     have hm := hr_r51
     clear hr_r51
     apply w_exit rfl
     obtain rfl := someE hm
     exact ⟨_, rfl, FrG.keep (ks := [1, 3]) H50 (by kernel_rfl), hS⟩
    replace hm := bF hc hm
    apply w_skip
    apply w_exit rfl
    obtain ⟨r54, hr_r54, hm⟩ := bindE hm
    obtain rfl := someE hm
    have hm := hm_z18
    obtain rfl := someE hm
    have hm := hr_r54
    clear hr_r54
    apply w_seq
    refine s_reg [] [2] [(2, [], vI 8)] [] H50 (by kernel_rfl) trivial fun _ _ H53 hb => ?_
    replace hS := hS.below hb
    clear H50 hb
    apply w_ret
    obtain rfl := someE hm
    have hm := hm_z15
    obtain rfl := someE hm
    exact retR1 H53 rfl rfl ⟨_, rfl, rfl, (hS.sel [] rfl)⟩
  ·rintro _ _ ⟨s_z18, hz, H, hS⟩
   subst hz
   replace hm := sumR hm_z18
   apply w_seq
   apply wl_start
   obtain ⟨x61, hx61, hm⟩ := letE hm
   refine wl_batch 0 8 [(vI v_.Num)] [1, 3, 34, 35] (fS [1, 3, 34, 35] [vP b1, vP b8, vI x61, vA b8 2]) [rA b1 2 (vI v_.Num)] H (by decide) (by subst hx61; kernel_rfl) ⟨((hS.bk 1 rfl).at1 rfl), trivial⟩ fun _ _ H63 hb => ?_
   replace hS := hS.below hb
   clear H hb
   have hd := hS.hand [0] [1] rfl rfl
   refine m_stp0 [1, 3] (fS [1, 3] [vP b1, vP b8]) H63 rfl rfl rfl (o_store [vU v_.Kind, vN, vI x61, vU 0, vU 0, vU 0, vU 0] H63 hd rfl rfl (by kernel_rfl) rfl rfl rfl) rfl fun _ _ H65 hq => ?_
   clear H63 hd
   obtain ⟨_, hq⟩ := hq
   replace hS : SH M X w [eB b8 [vU v_.Kind, vN, vI x61, vU 0, vU 0, vU 0, vU 0], eB b1 (cV v_)] _ := hS.join [0] [1] rfl rfl hq
   clear hq
   apply wl_end rfl
   apply w_exit rfl
   obtain rfl := someE hm
   exact ⟨_, rfl, FrG.keep (ks := [1, 3]) H65 (by kernel_rfl), hS⟩
 ·rintro _ _ ⟨s_z15, hz, H, hS⟩
  subst hz
  replace hm := sumR hm_z15
  apply w_seq
  obtain ⟨x67, hx67, hm⟩ := letE hm
  obtain ⟨x68, hx68, hm⟩ := letE hm
  refine s_reg [(vG (cV v_)), (vG [vU v_.Kind, vS s_z15.1, vI s_z15.2.2.2.2.2, vU s_z15.2.1, vU s_z15.2.2.1, vU s_z15.2.2.2.1, vU s_z15.2.2.2.2.1]), (vU v_.Kind), (vS v_.Word)] [51] [(51, [], vB x68)] [rN b1 0 (cV v_), rN b8 0 [vU v_.Kind, vS s_z15.1, vI s_z15.2.2.2.2.2, vU s_z15.2.1, vU s_z15.2.2.1, vU s_z15.2.2.2.1, vU s_z15.2.2.2.2.1], fun wz => (x67 = false ∧ True → V.at1 ⟨b1, 0, none⟩ (vU v_.Kind) wz), fun wz => ((v_.Kind == 1) = true ∧ x67 = false ∧ True → V.at1 ⟨b1, 1, none⟩ (vS v_.Word) wz)] H (by subst hx67 hx68; kernel_rfl) ⟨((hS.bk 1 rfl).atD rfl), ((hS.bk 0 rfl).atD rfl), fun hg => (hS.bk 1 rfl).at1 rfl, fun hg => (hS.bk 1 rfl).at1 rfl, trivial⟩ fun _ _ H70 hb => ?_
  replace hS := hS.below hb
  clear H hb
  replace hS : SH M X w [] _ := hS.sel [] rfl
  refine w_if H70 rfl (fun hc => ?c75) (fun hc => ?_)
  case c75 =>
   replace hm := bT hc hm
   refine s_reg [] [2] [(2, [], vI 8)] [] H70 (by kernel_rfl) trivial fun _ _ H72 hb => ?_
   replace hS := hS.below hb
   clear H70 hb
   apply w_ret
   obtain rfl := someE hm
   exact retR1 H72 rfl rfl ⟨_, rfl, rfl, (hS.sel [] rfl)⟩
  replace hm := bF hc hm
  apply w_skip
  refine s_reg [] [2] [(2, [], vI 0)] [] H70 (by kernel_rfl) trivial fun _ _ H74 hb => ?_
  replace hS := hS.below hb
  clear H70 hb
  apply w_ret
  obtain rfl := someE hm
  exact retR1 H74 rfl rfl ⟨_, rfl, rfl, (hS.sel [] rfl)⟩
theorem props_Check_ok  (v_ : TVal) (r : Int) (hm : props_Check v_ = some r) : Ret Tryz.prog 70 ⟨[vG (cV v_)]⟩ (vI r) := retP_of (Tryz.call70 _) (fun w h => props_Check_w F0   v_ r hm w h)

theorem slices_Index_uint8_uint8_w {g_s : Gh} (M : Av) (m : Nat) (s : List Int) (v_ : Int) (r : Int) (hm : slices_Index_uint8_uint8 m s v_ = some r) (w : World) (hS : S0 M [eI (tI .u8) s g_s] w) : Calls Tryz.prog 89 ⟨[vL g_s s, vU v_]⟩ w (fun e w' => ∃ v, e = .returned v ∧ v = vI r ∧ SH M (fpl [eI (tI .u8) s g_s]) w [] w') := by
 rw [slices_Index_uint8_uint8] at hm
 have hS0 : SH M (fpl [eI (tI .u8) s g_s]) w [eI (tI .u8) s g_s] w := hS
 generalize hX : fpl [eI (tI .u8) s g_s] = X at hS0 ⊢
 clear hS hX
 have hS := hS0
 clear hS0
 refine calls_entryP Tryz.func89 rfl Tryz.ntmps89 rfl fun _ H => ?_
 refine s_reg [] [0, 1] (fS [0, 1] [vL g_s s, vU v_]) [] H (by kernel_rfl) trivial fun _ _ H2 hb => ?_
 replace hS := hS.below hb
 clear H hb
 obtain ⟨z3, hz, hm_z3⟩ := bindE hm
 refine w_cut (fun a' w' => ∃ s_z3 : Unit, z3 = Sum.inr s_z3 ∧ Fr 19 [] a' ∧ SH M X w [eI (tI .u8) s g_s] w') ?_ ?_
 ·replace hm := hz
  refine s_reg [] [0, 1, 7, 8] (fS [0, 1, 7, 8] [vL g_s s, vU v_, vI (ln s), vI 0]) [] H2 (by kernel_rfl) trivial fun _ _ H5 hb => ?_
  replace hS := hS.below hb
  clear H2 hb
  apply w_block
  refine w_loop (fun kk a' w' => ∃ (v6 : Int), slices_Index_uint8_uint8_L1 m s v_ kk v6 = some _ ∧ Fr 19 (fS [0, 1, 7, 8] [vL g_s s, vU v_, vI (ln s), vI v6]) a' ∧ SH M X w [eI (tI .u8) s g_s] w') ⟨_, 0, hm, FrG.keep (ks := [0, 1, 7, 8]) H5 (by kernel_rfl), hS⟩ ?_
  clear hm H5 hS
  rintro kk _ _ ⟨v6, hm, H, hS⟩
  cases kk with
  | zero => exact noneE hm
  | succ kk =>
   rw [slices_Index_uint8_uint8_L1] at hm
   refine s_reg [] [0, 1, 7, 8, 9] (fS [0, 1, 7, 8, 9] [vL g_s s, vU v_, vI (ln s), vI v6, vB (decide (v6 < (ln s)))]) [] H (by kernel_rfl) trivial fun _ _ H8 hb => ?_
   replace hS := hS.below hb
   clear H hb
   apply w_seq
   refine w_if H8 rfl (fun hc => ?_) (fun hc => ?c19)
   case c19 =>
    replace hm := bF hc hm
    apply w_exit rfl
    obtain rfl := someE hm
    exact ⟨_, rfl, FrG.keep (ks := []) H8 (by kernel_rfl), hS⟩
   replace hm := bT hc hm
   apply w_skip
   apply w_seq
   apply w_block
   refine s_reg [] [0, 1, 5, 7, 8] (fS [0, 1, 5, 7, 8] [vL g_s s, vU v_, vI v6, vI (ln s), vI v6]) [] H8 (by kernel_rfl) trivial fun _ _ H10 hb => ?_
   replace hS := hS.below hb
   clear H8 hb
   obtain ⟨ho11, hm⟩ := chkE hm
   refine s_reg [(vU (gi s v6))] [0, 1, 5, 7, 8, 16] (fS [0, 1, 5, 7, 8, 16] [vL g_s s, vU v_, vI v6, vI (ln s), vI v6, vB (v_ == (gi s v6))]) [fun _ => oka g_s.a ∧ 0 ≤ v6 ∧ v6 < ln s, fun wz => V.at1 ⟨ab g_s.a, ao g_s.a + (v6).toNat * 1, none⟩ (vU (gi s v6)) wz] H10 (by kernel_rfl) ⟨((hS.im 0 rfl).oki ho11), ((hS.im 0 rfl).at1 ho11 0 rfl), trivial⟩ fun _ _ H13 hb => ?_
   replace hS := hS.below hb
   clear H10 hb
   refine w_if H13 rfl (fun hc => ?_) (fun hc => ?c18)
   case c18 =>
    replace hm := bF hc hm
    apply w_skip
    refine w_reg [] [0, 1, 7, 8] (fS [0, 1, 7, 8] [vL g_s s, vU v_, vI (ln s), vI (w64 (v6 + 1))]) [] H13 (by kernel_rfl) trivial fun _ _ H17 hb => ?_
    replace hS := hS.below hb
    clear H13 hb
    exact ⟨_, Nat.lt_succ_self _, w64 (v6 + 1), hm, FrG.keep (ks := [0, 1, 7, 8]) H17 (by kernel_rfl), hS⟩
   replace hm := bT hc hm
   refine s_reg [] [4] [(4, [], vI v6)] [] H13 (by kernel_rfl) trivial fun _ _ H15 hb => ?_
   replace hS := hS.below hb
   clear H13 hb
   apply w_ret
   obtain rfl := someE hm
   have hm := hm_z3
   obtain rfl := someE hm
   exact retR1 H15 rfl rfl ⟨_, rfl, rfl, (hS.sel [] rfl)⟩
 ·rintro _ _ ⟨s_z3, hz, H, hS⟩
  subst hz
  replace hm := sumR hm_z3
  replace hS : SH M X w [] _ := hS.sel [] rfl
  refine s_reg [] [4] [(4, [], vI (-1))] [] H (by kernel_rfl) trivial fun _ _ H22 hb => ?_
  replace hS := hS.below hb
  clear H hb
  apply w_ret
  obtain rfl := someE hm
  exact retR1 H22 rfl rfl ⟨_, rfl, rfl, (hS.sel [] rfl)⟩
theorem slices_Index_uint8_uint8_ok {g_s : Gh} (m : Nat) (s : List Int) (v_ : Int) (r : Int) (hm : slices_Index_uint8_uint8 m s v_ = some r) (w : World) (hL : S0 F0 [eI (tI .u8) s g_s] w ∧ fpl [eI (tI .u8) s g_s] = []) : RetB Tryz.prog 89 ⟨[vL g_s s, vU v_]⟩ (vI r) w := retB_of hL (Tryz.call89 _) (fun w' h => slices_Index_uint8_uint8_w F0 m   s v_ r hm w' h)

theorem slices_Contains_uint8_uint8_w {g_s : Gh} (M : Av) (m : Nat) (s : List Int) (v_ : Int) (r : Bool) (hm : slices_Contains_uint8_uint8 m s v_ = some r) (w : World) (hS : S0 M [eI (tI .u8) s g_s] w) : Calls Tryz.prog 71 ⟨[vL g_s s, vU v_]⟩ w (fun e w' => ∃ v, e = .returned v ∧ v = vB r ∧ SH M (fpl [eI (tI .u8) s g_s]) w [] w') := by
 rw [slices_Contains_uint8_uint8] at hm
 have hS0 : SH M (fpl [eI (tI .u8) s g_s]) w [eI (tI .u8) s g_s] w := hS
 generalize hX : fpl [eI (tI .u8) s g_s] = X at hS0 ⊢
 clear hS hX
 have hS := hS0
 clear hS0
 refine calls_entryP Tryz.func71 rfl Tryz.ntmps71 rfl fun _ H => ?_
 refine s_reg [] [0, 1] (fS [0, 1] [vL g_s s, vU v_]) [] H (by kernel_rfl) trivial fun _ _ H2 hb => ?_
 replace hS := hS.below hb
 clear H hb
 obtain ⟨y3, hy3, hm⟩ := bindE hm
 refine s_reg [(vI y3)] [4] [(4, [], vB (decide (0 ≤ y3)))] [rB 89 [vL g_s s, vU v_] (vI y3)] H2 (by kernel_rfl) ⟨(slices_Index_uint8_uint8_ok (g_s := g_s) m _ _ _ hy3 _ (s0im s0nil (hS.im 0 rfl))), trivial⟩ fun _ _ H5 hb => ?_
 replace hS := hS.below hb
 clear H2 hb
 replace hS : SH M X w [] _ := hS.sel [] rfl
 apply w_ret
 obtain rfl := someE hm
 exact retR1 H5 rfl rfl ⟨_, rfl, rfl, (hS.sel [] rfl)⟩
theorem slices_Contains_uint8_uint8_ok {g_s : Gh} (m : Nat) (s : List Int) (v_ : Int) (r : Bool) (hm : slices_Contains_uint8_uint8 m s v_ = some r) (w : World) (hL : S0 F0 [eI (tI .u8) s g_s] w ∧ fpl [eI (tI .u8) s g_s] = []) : RetB Tryz.prog 71 ⟨[vL g_s s, vU v_]⟩ (vB r) w := retB_of hL (Tryz.call71 _) (fun w' h => slices_Contains_uint8_uint8_w F0 m   s v_ r hm w' h)

theorem props_Has_w  (M : Av) (m : Nat) (prop : Int) (v_ : TVal) (r : Bool × Int) (hm : props_Has m prop v_ = some r) (w : World) (hS : S0 M [gE0] w) : Calls Tryz.prog 47 ⟨[vI prop, vG (cV v_)]⟩ w (fun e w' => ∃ v, e = .returned v ∧ v = vW [vB r.1, vI r.2] ∧ SH M (fpl [gE0]) w [] w') := by
 rw [props_Has] at hm
 have hS0 : SH M (fpl [gE0]) w [gE0] w := hS
 generalize hX : fpl [gE0] = X at hS0 ⊢
 clear hS hX
 have hS := hS0
 clear hS0
 refine calls_entryP Tryz.func47 rfl Tryz.ntmps47 rfl fun _ H => ?_
 apply w_seq
 apply wl_start
 have hd := hS.hand [] [0] rfl rfl
 refine m_stp [3, 0] [(0, [], vI prop)] H rfl rfl rfl rfl (o_box (cV v_) H hd rfl rfl) (fun _ => rfl) fun _ _ v H3 hq => ?_
 clear H hd
 obtain ⟨b1, rfl, hq⟩ := hq
 replace hS : SH M X w [eB b1 (cV v_), gE0] _ := hS.join [] [0] rfl rfl hq
 clear hq
 refine wl_batch 1 3 [] [0, 3] (fS [0, 3] [vI prop, vP b1]) [] H3 (by decide) (by kernel_rfl) trivial fun _ _ H5 hb => ?_
 replace hS := hS.below hb
 clear H3 hb
 apply wl_end rfl
 apply w_seq
 obtain ⟨x6, hx6, hm⟩ := letE hm
 refine s_reg [] [0, 3, 12] (fS [0, 3, 12] [vI prop, vP b1, vB x6]) [] H5 (by subst hx6; kernel_rfl) trivial fun _ _ H8 hb => ?_
 replace hS := hS.below hb
 clear H5 hb
 refine w_if H8 rfl (fun hc => ?c40) (fun hc => ?_)
 case c40 =>
  replace hm := bT hc hm
  refine s_reg [] [4, 5] (fS [4, 5] [vF, vI 2]) [] H8 (by kernel_rfl) trivial fun _ _ H10 hb => ?_
  replace hS := hS.below hb
  clear H8 hb
  replace hS : SH M X w [gE0] _ := hS.sel [1] rfl
  apply w_ret
  obtain rfl := someE hm
  exact retR2 H10 rfl rfl rfl ⟨_, rfl, rfl, (hS.sel [] rfl)⟩
 replace hm := bF hc hm
 apply w_skip
 apply w_seq
 apply wl_start
 obtain ⟨y11, hy11, hm⟩ := bindE hm
 have hd := hS.hand [1] [0, 1] rfl rfl
 refine m_stp [13, 0, 3] (fS [0, 3] [vI prop, vP b1]) H8 rfl rfl rfl rfl (o_callx H8 rfl rfl (props_Table_ok m _ hy11 _ _ hd)) (fun _ => rfl) fun _ _ v H15 hq => ?_
 clear H8 hd
 obtain ⟨g12, rfl, hq⟩ := hq
 replace hS : SH M X w [eO 100 tyProp y11 g12, eB b1 (cV v_), gE0] _ := hS.join [1] [0, 1] rfl rfl hq
 clear hq
 obtain ⟨ho16, hm⟩ := chkE hm
 refine wl_batch 1 4 [(vG [vS (gi y11 prop).Name, vB ((gi y11 prop).Inherited), vU ((gi y11 prop).Initial.Kind), vS (gi y11 prop).Initial.Word, vI ((gi y11 prop).Initial.Num), vU ((gi y11 prop).Initial.Color.Red), vU ((gi y11 prop).Initial.Color.Green), vU ((gi y11 prop).Initial.Color.Blue), vU ((gi y11 prop).Initial.Color.Alpha), .slice (g12.s (prop).toNat 0).a (((gi y11 prop).Words).length) (g12.s (prop).toNat 0).c, .slice (g12.s (prop).toNat 1).a (((gi y11 prop).Kinds).length) (g12.s (prop).toNat 1).c, vB ((gi y11 prop).Least)])] [3, 16] (fS [3, 16] [vP b1, vG [vS (gi y11 prop).Name, vB ((gi y11 prop).Inherited), vU ((gi y11 prop).Initial.Kind), vS (gi y11 prop).Initial.Word, vI ((gi y11 prop).Initial.Num), vU ((gi y11 prop).Initial.Color.Red), vU ((gi y11 prop).Initial.Color.Green), vU ((gi y11 prop).Initial.Color.Blue), vU ((gi y11 prop).Initial.Color.Alpha), .slice (g12.s (prop).toNat 0).a (((gi y11 prop).Words).length) (g12.s (prop).toNat 0).c, .slice (g12.s (prop).toNat 1).a (((gi y11 prop).Kinds).length) (g12.s (prop).toNat 1).c, vB ((gi y11 prop).Least)]]) [fun _ => oka g12.a ∧ 0 ≤ prop ∧ prop < ln y11, fun wz => V.atN (ab g12.a) (ao g12.a + (prop).toNat * 12) [vS (gi y11 prop).Name, vB ((gi y11 prop).Inherited), vU ((gi y11 prop).Initial.Kind), vS (gi y11 prop).Initial.Word, vI ((gi y11 prop).Initial.Num), vU ((gi y11 prop).Initial.Color.Red), vU ((gi y11 prop).Initial.Color.Green), vU ((gi y11 prop).Initial.Color.Blue), vU ((gi y11 prop).Initial.Color.Alpha), .slice (g12.s (prop).toNat 0).a (((gi y11 prop).Words).length) (g12.s (prop).toNat 0).c, .slice (g12.s (prop).toNat 1).a (((gi y11 prop).Kinds).length) (g12.s (prop).toNat 1).c, vB ((gi y11 prop).Least)] 0 wz] H15 (by decide) (by kernel_rfl) ⟨((hS.osl 0 rfl).oki ho16), ((hS.osl 0 rfl).atA ho16 0 rfl), trivial⟩ fun _ _ H18 hb => ?_
 replace hS := hS.below hb
 clear H15 hb
 have hd := hS.hand [] [0, 1, 2] rfl rfl
 refine m_stp [6, 3, 16] (fS [3, 16] [vP b1, vG [vS (gi y11 prop).Name, vB ((gi y11 prop).Inherited), vU ((gi y11 prop).Initial.Kind), vS (gi y11 prop).Initial.Word, vI ((gi y11 prop).Initial.Num), vU ((gi y11 prop).Initial.Color.Red), vU ((gi y11 prop).Initial.Color.Green), vU ((gi y11 prop).Initial.Color.Blue), vU ((gi y11 prop).Initial.Color.Alpha), .slice (g12.s (prop).toNat 0).a (((gi y11 prop).Words).length) (g12.s (prop).toNat 0).c, .slice (g12.s (prop).toNat 1).a (((gi y11 prop).Kinds).length) (g12.s (prop).toNat 1).c, vB ((gi y11 prop).Least)]]) H18 rfl rfl rfl rfl (o_alloc [vN, vF, vU 0, vN, vI 0, vU 0, vU 0, vU 0, vU 0, vO, vO, vF] (z := vG [vN, vF, vU 0, vN, vI 0, vU 0, vU 0, vU 0, vU 0, vO, vO, vF]) hd (by kernel_rfl) rfl) (fun _ => rfl) fun _ _ v H21 hq => ?_
 clear H18 hd
 obtain ⟨b19, rfl, hq⟩ := hq
 replace hS : SH M X w [eB b19 [vN, vF, vU 0, vN, vI 0, vU 0, vU 0, vU 0, vU 0, vO, vO, vF], eO 100 tyProp y11 g12, eB b1 (cV v_), gE0] _ := hS.join [] [0, 1, 2] rfl rfl hq
 clear hq
 have hd := hS.hand [0] [1, 2, 3] rfl rfl
 refine m_stp0 [3, 6] (fS [3, 6] [vP b1, vP b19]) H21 rfl rfl rfl (o_store [vS (gi y11 prop).Name, vB ((gi y11 prop).Inherited), vU ((gi y11 prop).Initial.Kind), vS (gi y11 prop).Initial.Word, vI ((gi y11 prop).Initial.Num), vU ((gi y11 prop).Initial.Color.Red), vU ((gi y11 prop).Initial.Color.Green), vU ((gi y11 prop).Initial.Color.Blue), vU ((gi y11 prop).Initial.Color.Alpha), .slice (g12.s (prop).toNat 0).a (((gi y11 prop).Words).length) (g12.s (prop).toNat 0).c, .slice (g12.s (prop).toNat 1).a (((gi y11 prop).Kinds).length) (g12.s (prop).toNat 1).c, vB ((gi y11 prop).Least)] H21 hd rfl rfl (by kernel_rfl) rfl rfl rfl) rfl fun _ _ H23 hq => ?_
 clear H21 hd
 obtain ⟨_, hq⟩ := hq
 replace hS : SH M X w [eB b19 [vS (gi y11 prop).Name, vB ((gi y11 prop).Inherited), vU ((gi y11 prop).Initial.Kind), vS (gi y11 prop).Initial.Word, vI ((gi y11 prop).Initial.Num), vU ((gi y11 prop).Initial.Color.Red), vU ((gi y11 prop).Initial.Color.Green), vU ((gi y11 prop).Initial.Color.Blue), vU ((gi y11 prop).Initial.Color.Alpha), .slice (g12.s (prop).toNat 0).a (((gi y11 prop).Words).length) (g12.s (prop).toNat 0).c, .slice (g12.s (prop).toNat 1).a (((gi y11 prop).Kinds).length) (g12.s (prop).toNat 1).c, vB ((gi y11 prop).Least)], eO 100 tyProp y11 g12, eB b1 (cV v_), gE0] _ := hS.join [0] [1, 2, 3] rfl rfl hq
 clear hq
 apply wl_end rfl
 apply w_seq
 apply w_block
 obtain ⟨y24, hy24, hm⟩ := bindE hm
 refine s_reg [(vG (cV v_)), (vI y24)] [3, 6, 17] (fS [3, 6, 17] [vP b1, vP b19, vB (y24 != 0)]) [rN b1 0 (cV v_), rB 70 [vG (cV v_)] (vI y24)] H23 (by kernel_rfl) ⟨((hS.bk 2 rfl).atD rfl), ((props_Check_ok _ _ hy24).b), trivial⟩ fun _ _ H26 hb => ?_
 replace hS := hS.below hb
 clear H23 hb
 refine w_if H26 rfl (fun hc => ?c39) (fun hc => ?_)
 case c39 =>
  replace hm := bT hc hm
  refine s_reg [] [4, 5] (fS [4, 5] [vF, vI 0]) [] H26 (by kernel_rfl) trivial fun _ _ H28 hb => ?_
  replace hS := hS.below hb
  clear H26 hb
  replace hS : SH M X w [gE0] _ := hS.sel [3] rfl
  apply w_ret
  obtain rfl := someE hm
  exact retR2 H28 rfl rfl rfl ⟨_, rfl, rfl, (hS.sel [] rfl)⟩
 replace hm := bF hc hm
 refine s_reg [(vU v_.Kind)] [3, 6, 21] (fS [3, 6, 21] [vP b1, vP b19, vB (v_.Kind == 1)]) [rA b1 0 (vU v_.Kind)] H26 (by kernel_rfl) ⟨((hS.bk 2 rfl).at1 rfl), trivial⟩ fun _ _ H30 hb => ?_
 replace hS := hS.below hb
 clear H26 hb
 refine w_if H30 rfl (fun hc => ?c38) (fun hc => ?_)
 case c38 =>
  replace hm := bT hc hm
  obtain ⟨y31, hy31, hm⟩ := bindE hm
  refine s_reg [(.slice (g12.s (prop).toNat 0).a (((gi y11 prop).Words).length) (g12.s (prop).toNat 0).c), (vS v_.Word), (vB y31)] [4, 5] (fS [4, 5] [vB y31, vI 0]) [fun wz => V.at1 ⟨b19, 9, none⟩ (.slice (g12.s (prop).toNat 0).a (((gi y11 prop).Words).length) (g12.s (prop).toNat 0).c) wz, rA b1 1 (vS v_.Word), rB 51 [.slice (g12.s (prop).toNat 0).a (((gi y11 prop).Words).length) (g12.s (prop).toNat 0).c, vS v_.Word] (vB y31)] H30 (by kernel_rfl) ⟨((hS.bk 0 rfl).at1 rfl), ((hS.bk 2 rfl).at1 rfl), (slices_Contains_string_string_ok (g_s := (g12.s (prop).toNat 0)) 64 _ _ _ hy31 _ (s0im s0nil (tyProp_i0 ((hS.osl 1 rfl).el ho16)))), trivial⟩ fun _ _ H33 hb => ?_
  replace hS := hS.below hb
  clear H30 hb
  replace hS : SH M X w [gE0] _ := hS.sel [3] rfl
  apply w_ret
  obtain rfl := someE hm
  exact retR2 H33 rfl rfl rfl ⟨_, rfl, rfl, (hS.sel [] rfl)⟩
 replace hm := bF hc hm
 apply w_skip
 obtain ⟨y34, hy34, hm⟩ := bindE hm
 obtain ⟨x35, hx35, hm⟩ := letE hm
 refine s_reg [(.slice (g12.s (prop).toNat 1).a (((gi y11 prop).Kinds).length) (g12.s (prop).toNat 1).c), (vU v_.Kind), (vB y34), (vB ((gi y11 prop).Least)), (vI v_.Num)] [4, 5] (fS [4, 5] [vB x35, vI 0]) [fun wz => V.at1 ⟨b19, 10, none⟩ (.slice (g12.s (prop).toNat 1).a (((gi y11 prop).Kinds).length) (g12.s (prop).toNat 1).c) wz, rA b1 0 (vU v_.Kind), rB 71 [.slice (g12.s (prop).toNat 1).a (((gi y11 prop).Kinds).length) (g12.s (prop).toNat 1).c, vU v_.Kind] (vB y34), fun wz => (y34 = true ∧ True → V.at1 ⟨b19, 11, none⟩ (vB ((gi y11 prop).Least)) wz), fun wz => ((!((gi y11 prop).Least)) = false ∧ y34 = true ∧ True → V.at1 ⟨b1, 2, none⟩ (vI v_.Num) wz)] H30 (by subst hx35; kernel_rfl) ⟨((hS.bk 0 rfl).at1 rfl), ((hS.bk 2 rfl).at1 rfl), (slices_Contains_uint8_uint8_ok (g_s := (g12.s (prop).toNat 1)) m _ _ _ hy34 _ (s0im s0nil (tyProp_i1 ((hS.osl 1 rfl).el ho16)))), fun hg => (hS.bk 0 rfl).at1 rfl, fun hg => (hS.bk 2 rfl).at1 rfl, trivial⟩ fun _ _ H37 hb => ?_
 replace hS := hS.below hb
 clear H30 hb
 replace hS : SH M X w [gE0] _ := hS.sel [3] rfl
 apply w_ret
 obtain rfl := someE hm
 exact retR2 H37 rfl rfl rfl ⟨_, rfl, rfl, (hS.sel [] rfl)⟩
theorem props_Has_ok  (m : Nat) (prop : Int) (v_ : TVal) (r : Bool × Int) (hm : props_Has m prop v_ = some r) (w : World) (hL : S0 F0 [gE0] w ∧ fpl [gE0] = []) : RetB Tryz.prog 47 ⟨[vI prop, vG (cV v_)]⟩ (vW [vB r.1, vI r.2]) w := retB_of hL (Tryz.call47 _) (fun w' h => props_Has_w F0 m   prop v_ r hm w' h)

theorem parseval_Parse_w {g_l_ : Gh} (M : Av) (m : Nat) (prop : Int) (l_ : List TValue) (r : TVal × Int) (hm : parseval_Parse m prop l_ = some r) (w : World) (hS : S0 M [eI tyValue l_ g_l_, gE0] w) : Calls Tryz.prog 19 ⟨[vI prop, vL g_l_ l_]⟩ w (fun e w' => ∃ v, e = .returned v ∧ v = vW [vG (cV r.1), vI r.2] ∧ SH M (fpl [eI tyValue l_ g_l_, gE0]) w [] w') := by
 rw [parseval_Parse] at hm
 have hS0 : SH M (fpl [eI tyValue l_ g_l_, gE0]) w [eI tyValue l_ g_l_, gE0] w := hS
 generalize hX : fpl [eI tyValue l_ g_l_, gE0] = X at hS0 ⊢
 clear hS hX
 have hS := hS0
 clear hS0
 refine calls_entryP Tryz.func19 rfl Tryz.ntmps19 rfl fun _ H => ?_
 apply w_seq
 apply wl_start
 have hd := hS.hand [] [0, 1] rfl rfl
 refine m_stp [4, 0, 1] (fS [0, 1] [vI prop, vL g_l_ l_]) H rfl rfl rfl rfl (o_alloc [vU 0, vN, vI 0, vU 0, vU 0, vU 0, vU 0] (z := vG [vU 0, vN, vI 0, vU 0, vU 0, vU 0, vU 0]) hd (by kernel_rfl) rfl) (fun _ => rfl) fun _ _ v H3 hq => ?_
 clear H hd
 obtain ⟨b1, rfl, hq⟩ := hq
 replace hS : SH M X w [eB b1 [vU 0, vN, vI 0, vU 0, vU 0, vU 0, vU 0], eI tyValue l_ g_l_, gE0] _ := hS.join [] [0, 1] rfl rfl hq
 clear hq
 refine wl_batch 1 2 [] [0, 1, 4] (fS [0, 1, 4] [vI prop, vL g_l_ l_, vP b1]) [] H3 (by decide) (by kernel_rfl) trivial fun _ _ H5 hb => ?_
 replace hS := hS.below hb
 clear H3 hb
 apply wl_end rfl
 apply w_seq
 obtain ⟨x6, hx6, hm⟩ := letE hm
 refine s_reg [] [0, 1, 4, 15] (fS [0, 1, 4, 15] [vI prop, vL g_l_ l_, vP b1, vB x6]) [] H5 (by subst hx6; kernel_rfl) trivial fun _ _ H8 hb => ?_
 replace hS := hS.below hb
 clear H5 hb
 refine w_if H8 rfl (fun hc => ?c70) (fun hc => ?_)
 case c70 =>
  replace hm := bT hc hm
  apply w_seq
  apply wl_start
  refine wl_batch 0 1 [] [4, 16] (fS [4, 16] [vP b1, vG [vU 0, vN, vI 0, vU 0, vU 0, vU 0, vU 0]]) [] H8 (by decide) (by kernel_rfl) trivial fun _ _ H10 hb => ?_
  replace hS := hS.below hb
  clear H8 hb
  have hd := hS.hand [0] [1, 2] rfl rfl
  refine m_stp0 [4] [(4, [], vP b1)] H10 rfl rfl rfl (o_store [vU 0, vN, vI 0, vU 0, vU 0, vU 0, vU 0] H10 hd rfl rfl (by kernel_rfl) rfl rfl rfl) rfl fun _ _ H12 hq => ?_
  clear H10 hd
  obtain ⟨_, hq⟩ := hq
  replace hS : SH M X w [eB b1 [vU 0, vN, vI 0, vU 0, vU 0, vU 0, vU 0], eI tyValue l_ g_l_, gE0] _ := hS.join [0] [1, 2] rfl rfl hq
  clear hq
  refine wl_batch 2 3 [] [4, 5] (fS [4, 5] [vP b1, vI 2]) [] H12 (by decide) (by kernel_rfl) trivial fun _ _ H14 hb => ?_
  replace hS := hS.below hb
  clear H12 hb
  apply wl_end rfl
  replace hS : SH M X w [eB b1 [vU 0, vN, vI 0, vU 0, vU 0, vU 0, vU 0], gE0] _ := hS.sel [0, 2] rfl
  apply w_ret
  obtain rfl := someE hm
  exact retR2 H14 rfl (oneRes_agg rfl (hS.bk 0 rfl) Tryz.underlying57 rfl (by kernel_rfl)) rfl ⟨_, rfl, rfl, (hS.sel [] rfl)⟩
 replace hm := bF hc hm
 apply w_skip
 apply w_seq
 refine s_reg [] [0, 1, 4, 19] (fS [0, 1, 4, 19] [vI prop, vL g_l_ l_, vP b1, vB ((ln l_) != 1)]) [] H8 (by kernel_rfl) trivial fun _ _ H16 hb => ?_
 replace hS := hS.below hb
 clear H8 hb
 refine w_if H16 rfl (fun hc => ?c69) (fun hc => ?_)
 case c69 =>
  replace hm := bT hc hm
  apply w_seq
  apply wl_start
  refine wl_batch 0 1 [] [4, 20] (fS [4, 20] [vP b1, vG [vU 0, vN, vI 0, vU 0, vU 0, vU 0, vU 0]]) [] H16 (by decide) (by kernel_rfl) trivial fun _ _ H18 hb => ?_
  replace hS := hS.below hb
  clear H16 hb
  have hd := hS.hand [0] [1, 2] rfl rfl
  refine m_stp0 [4] [(4, [], vP b1)] H18 rfl rfl rfl (o_store [vU 0, vN, vI 0, vU 0, vU 0, vU 0, vU 0] H18 hd rfl rfl (by kernel_rfl) rfl rfl rfl) rfl fun _ _ H20 hq => ?_
  clear H18 hd
  obtain ⟨_, hq⟩ := hq
  replace hS : SH M X w [eB b1 [vU 0, vN, vI 0, vU 0, vU 0, vU 0, vU 0], eI tyValue l_ g_l_, gE0] _ := hS.join [0] [1, 2] rfl rfl hq
  clear hq
  refine wl_batch 2 3 [] [4, 5] (fS [4, 5] [vP b1, vI 12]) [] H20 (by decide) (by kernel_rfl) trivial fun _ _ H22 hb => ?_
  replace hS := hS.below hb
  clear H20 hb
  apply wl_end rfl
  replace hS : SH M X w [eB b1 [vU 0, vN, vI 0, vU 0, vU 0, vU 0, vU 0], gE0] _ := hS.sel [0, 2] rfl
  apply w_ret
  obtain rfl := someE hm
  exact retR2 H22 rfl (oneRes_agg rfl (hS.bk 0 rfl) Tryz.underlying57 rfl (by kernel_rfl)) rfl ⟨_, rfl, rfl, (hS.sel [] rfl)⟩
 replace hm := bF hc hm
 apply w_skip
 obtain ⟨z23, hz, hm_z23⟩ := bindE hm
 refine w_cut (fun a' w' => ∃ s_z23 : Unit, z23 = Sum.inr s_z23 ∧ Fr 40 [(4, [], vP b1)] a' ∧ SH M X w [eB b1 [vU 0, vN, vI 0, vU 0, vU 0, vU 0, vU 0], eI tyValue l_ g_l_, gE0] w') ?_ ?_
 ·replace hm := hz
  apply w_seq
  apply wl_start
  obtain ⟨ho24, hm⟩ := chkE hm
  refine wl_batch 0 3 [(vG [vU ((gi l_ (0 : Int)).Token.Kind), vS (gi l_ (0 : Int)).Token.Text, vI ((gi l_ (0 : Int)).Token.Num), vS (gi l_ (0 : Int)).Token.Unit, vB ((gi l_ (0 : Int)).Token.Flag), .slice (g_l_.s ((0 : Int)).toNat 0).a (((gi l_ (0 : Int)).List_).length) (g_l_.s ((0 : Int)).toNat 0).c])] [0, 4, 23] (fS [0, 4, 23] [vI prop, vP b1, vG [vU ((gi l_ (0 : Int)).Token.Kind), vS (gi l_ (0 : Int)).Token.Text, vI ((gi l_ (0 : Int)).Token.Num), vS (gi l_ (0 : Int)).Token.Unit, vB ((gi l_ (0 : Int)).Token.Flag), .slice (g_l_.s ((0 : Int)).toNat 0).a (((gi l_ (0 : Int)).List_).length) (g_l_.s ((0 : Int)).toNat 0).c]]) [fun _ => oka g_l_.a ∧ 0 ≤ (0 : Int) ∧ (0 : Int) < ln l_, fun wz => V.atN (ab g_l_.a) (ao g_l_.a + ((0 : Int)).toNat * 6) [vU ((gi l_ (0 : Int)).Token.Kind), vS (gi l_ (0 : Int)).Token.Text, vI ((gi l_ (0 : Int)).Token.Num), vS (gi l_ (0 : Int)).Token.Unit, vB ((gi l_ (0 : Int)).Token.Flag), .slice (g_l_.s ((0 : Int)).toNat 0).a (((gi l_ (0 : Int)).List_).length) (g_l_.s ((0 : Int)).toNat 0).c] 0 wz] H16 (by decide) (by kernel_rfl) ⟨((hS.im 1 rfl).oki ho24), ((hS.im 1 rfl).atA ho24 0 rfl), trivial⟩ fun _ _ H26 hb => ?_
  replace hS := hS.below hb
  clear H16 hb
  replace hS : SH M X w [eI tyValue ((gi l_ (0 : Int)).List_) (g_l_.s ((0 : Int)).toNat 0), eB b1 [vU 0, vN, vI 0, vU 0, vU 0, vU 0, vU 0], eI tyValue l_ g_l_, gE0] _ := hS.addIm (tyValue_i0 ((hS.im 1 rfl).el ho24))
  obtain ⟨y28, hy28, hm⟩ := bindE hm
  have hd := hS.hand [0] [0, 1, 2, 3] rfl rfl
  refine m_stp [24, 0, 4] (fS [0, 4] [vI prop, vP b1]) H26 rfl rfl rfl rfl (o_callx H26 rfl rfl (parseval_maybe_ok (g_v__0 := (g_l_.s ((0 : Int)).toNat 0)) m _ _ hy28 _ _ hd)) (fun _ => rfl) fun _ _ v H32 hq => ?_
  clear H26 hd
  obtain ⟨g29, rfl, hq⟩ := hq
  replace hS : SH M X w [eO 57 tyVal y28 g29, eI tyValue ((gi l_ (0 : Int)).List_) (g_l_.s ((0 : Int)).toNat 0), eB b1 [vU 0, vN, vI 0, vU 0, vU 0, vU 0, vU 0], eI tyValue l_ g_l_, gE0] _ := hS.join [0] [0, 1, 2, 3] rfl rfl hq
  clear hq
  refine wl_batch 4 6 [] [0, 4, 24, 25, 26] (fS [0, 4, 24, 25, 26] [vI prop, vP b1, vL g29 y28, vI (ln y28), vI 0]) [] H32 (by decide) (by kernel_rfl) trivial fun _ _ H34 hb => ?_
  replace hS := hS.below hb
  clear H32 hb
  apply wl_end rfl
  replace hS : SH M X w [eO 57 tyVal y28 g29, eB b1 [vU 0, vN, vI 0, vU 0, vU 0, vU 0, vU 0], eI tyValue l_ g_l_, gE0] _ := hS.sel [0, 2, 3, 4] rfl
  apply w_block
  refine w_loop (fun kk a' w' => ∃ (v35 : Int), parseval_Parse_L1 m prop y28 kk v35 = some _ ∧ Fr 40 (fS [0, 4, 24, 25, 26] [vI prop, vP b1, vL g29 y28, vI (ln y28), vI v35]) a' ∧ SH M X w [eO 57 tyVal y28 g29, eB b1 [vU 0, vN, vI 0, vU 0, vU 0, vU 0, vU 0], eI tyValue l_ g_l_, gE0] w') ⟨_, 0, hm, FrG.keep (ks := [0, 4, 24, 25, 26]) H34 (by kernel_rfl), hS⟩ ?_
  clear hm H34 hS
  rintro kk _ _ ⟨v35, hm, H, hS⟩
  cases kk with
  | zero => exact noneE hm
  | succ kk =>
   rw [parseval_Parse_L1] at hm
   refine s_reg [] [0, 4, 24, 25, 26, 27] (fS [0, 4, 24, 25, 26, 27] [vI prop, vP b1, vL g29 y28, vI (ln y28), vI v35, vB (decide (v35 < (ln y28)))]) [] H (by kernel_rfl) trivial fun _ _ H37 hb => ?_
   replace hS := hS.below hb
   clear H hb
   apply w_seq
   refine w_if H37 rfl (fun hc => ?_) (fun hc => ?c60)
   case c60 =>
    replace hm := bF hc hm
    apply w_exit rfl
    obtain rfl := someE hm
    replace hS : SH M X w [eB b1 [vU 0, vN, vI 0, vU 0, vU 0, vU 0, vU 0], eI tyValue l_ g_l_, gE0] _ := hS.sel [1, 2, 3] rfl
    exact ⟨_, rfl, FrG.keep (ks := [4]) H37 (by kernel_rfl), hS⟩
   replace hm := bT hc hm
   apply w_skip
   apply w_seq
   apply w_block
   apply w_seq
   apply wl_start
   obtain ⟨ho38, hm⟩ := chkE hm
   refine wl_batch 0 2 [(vG [vU ((gi y28 v35).Kind), vS (gi y28 v35).Word, vI ((gi y28 v35).Num), vU ((gi y28 v35).Color.Red), vU ((gi y28 v35).Color.Green), vU ((gi y28 v35).Color.Blue), vU ((gi y28 v35).Color.Alpha)])] [0, 4, 24, 25, 26, 29] (fS [0, 4, 24, 25, 26, 29] [vI prop, vP b1, vL g29 y28, vI (ln y28), vI v35, vG [vU ((gi y28 v35).Kind), vS (gi y28 v35).Word, vI ((gi y28 v35).Num), vU ((gi y28 v35).Color.Red), vU ((gi y28 v35).Color.Green), vU ((gi y28 v35).Color.Blue), vU ((gi y28 v35).Color.Alpha)]]) [fun _ => oka g29.a ∧ 0 ≤ v35 ∧ v35 < ln y28, fun wz => V.atN (ab g29.a) (ao g29.a + (v35).toNat * 7) [vU ((gi y28 v35).Kind), vS (gi y28 v35).Word, vI ((gi y28 v35).Num), vU ((gi y28 v35).Color.Red), vU ((gi y28 v35).Color.Green), vU ((gi y28 v35).Color.Blue), vU ((gi y28 v35).Color.Alpha)] 0 wz] H37 (by decide) (by kernel_rfl) ⟨((hS.osl 0 rfl).oki ho38), ((hS.osl 0 rfl).atA ho38 0 rfl), trivial⟩ fun _ _ H40 hb => ?_
   replace hS := hS.below hb
   clear H37 hb
   have hd := hS.hand [] [0, 1, 2, 3] rfl rfl
   refine m_stp [7, 0, 4, 24, 25, 26, 29] (fS [0, 4, 24, 25, 26, 29] [vI prop, vP b1, vL g29 y28, vI (ln y28), vI v35, vG [vU ((gi y28 v35).Kind), vS (gi y28 v35).Word, vI ((gi y28 v35).Num), vU ((gi y28 v35).Color.Red), vU ((gi y28 v35).Color.Green), vU ((gi y28 v35).Color.Blue), vU ((gi y28 v35).Color.Alpha)]]) H40 rfl rfl rfl rfl (o_alloc [vU 0, vN, vI 0, vU 0, vU 0, vU 0, vU 0] (z := vG [vU 0, vN, vI 0, vU 0, vU 0, vU 0, vU 0]) hd (by kernel_rfl) rfl) (fun _ => rfl) fun _ _ v H43 hq => ?_
   clear H40 hd
   obtain ⟨b41, rfl, hq⟩ := hq
   replace hS : SH M X w [eB b41 [vU 0, vN, vI 0, vU 0, vU 0, vU 0, vU 0], eO 57 tyVal y28 g29, eB b1 [vU 0, vN, vI 0, vU 0, vU 0, vU 0, vU 0], eI tyValue l_ g_l_, gE0] _ := hS.join [] [0, 1, 2, 3] rfl rfl hq
   clear hq
   have hd := hS.hand [0] [1, 2, 3, 4] rfl rfl
   refine m_stp0 [0, 4, 7, 24, 25, 26] (fS [0, 4, 7, 24, 25, 26] [vI prop, vP b1, vP b41, vL g29 y28, vI (ln y28), vI v35]) H43 rfl rfl rfl (o_store [vU ((gi y28 v35).Kind), vS (gi y28 v35).Word, vI ((gi y28 v35).Num), vU ((gi y28 v35).Color.Red), vU ((gi y28 v35).Color.Green), vU ((gi y28 v35).Color.Blue), vU ((gi y28 v35).Color.Alpha)] H43 hd rfl rfl (by kernel_rfl) rfl rfl rfl) rfl fun _ _ H45 hq => ?_
   clear H43 hd
   obtain ⟨_, hq⟩ := hq
   replace hS : SH M X w [eB b41 [vU ((gi y28 v35).Kind), vS (gi y28 v35).Word, vI ((gi y28 v35).Num), vU ((gi y28 v35).Color.Red), vU ((gi y28 v35).Color.Green), vU ((gi y28 v35).Color.Blue), vU ((gi y28 v35).Color.Alpha)], eO 57 tyVal y28 g29, eB b1 [vU 0, vN, vI 0, vU 0, vU 0, vU 0, vU 0], eI tyValue l_ g_l_, gE0] _ := hS.join [0] [1, 2, 3, 4] rfl rfl hq
   clear hq
   apply wl_end rfl
   obtain ⟨y46, hy46, hm⟩ := bindE hm
   refine s_reg [(vG [vU ((gi y28 v35).Kind), vS (gi y28 v35).Word, vI ((gi y28 v35).Num), vU ((gi y28 v35).Color.Red), vU ((gi y28 v35).Color.Green), vU ((gi y28 v35).Color.Blue), vU ((gi y28 v35).Color.Alpha)]), (vW [vB y46.1, vI y46.2])] [0, 4, 7, 8, 24, 25, 26] (fS [0, 4, 7, 8, 24, 25, 26] [vI prop, vP b1, vP b41, vB y46.1, vL g29 y28, vI (ln y28), vI v35]) [rN b41 0 [vU ((gi y28 v35).Kind), vS (gi y28 v35).Word, vI ((gi y28 v35).Num), vU ((gi y28 v35).Color.Red), vU ((gi y28 v35).Color.Green), vU ((gi y28 v35).Color.Blue), vU ((gi y28 v35).Color.Alpha)], rB 47 [vI prop, vG [vU ((gi y28 v35).Kind), vS (gi y28 v35).Word, vI ((gi y28 v35).Num), vU ((gi y28 v35).Color.Red), vU ((gi y28 v35).Color.Green), vU ((gi y28 v35).Color.Blue), vU ((gi y28 v35).Color.Alpha)]] (vW [vB y46.1, vI y46.2])] H45 (by kernel_rfl) ⟨((hS.bk 0 rfl).atD rfl), (props_Has_ok 64 _ _ _ hy46 _ (s0im s0nil (hS.im 4 rfl))), trivial⟩ fun _ _ H48 hb => ?_
   replace hS := hS.below hb
   clear H45 hb
   refine s_reg [] [0, 4, 7, 24, 25, 26, 36] (fS [0, 4, 7, 24, 25, 26, 36] [vI prop, vP b1, vP b41, vL g29 y28, vI (ln y28), vI v35, vB y46.1]) [] H48 (by kernel_rfl) trivial fun _ _ H50 hb => ?_
   replace hS := hS.below hb
   clear H48 hb
   refine w_if H50 rfl (fun hc => ?_) (fun hc => ?c59)
   case c59 =>
    replace hm := bF hc hm
    apply w_skip
    refine w_reg [] [0, 4, 24, 25, 26] (fS [0, 4, 24, 25, 26] [vI prop, vP b1, vL g29 y28, vI (ln y28), vI (w64 (v35 + 1))]) [] H50 (by kernel_rfl) trivial fun _ _ H58 hb => ?_
    replace hS := hS.below hb
    clear H50 hb
    replace hS : SH M X w [eO 57 tyVal y28 g29, eB b1 [vU 0, vN, vI 0, vU 0, vU 0, vU 0, vU 0], eI tyValue l_ g_l_, gE0] _ := hS.sel [1, 2, 3, 4] rfl
    exact ⟨_, Nat.lt_succ_self _, w64 (v35 + 1), hm, FrG.keep (ks := [0, 4, 24, 25, 26]) H58 (by kernel_rfl), hS⟩
   replace hm := bT hc hm
   apply w_seq
   apply wl_start
   refine wl_batch 0 1 [(vG [vU ((gi y28 v35).Kind), vS (gi y28 v35).Word, vI ((gi y28 v35).Num), vU ((gi y28 v35).Color.Red), vU ((gi y28 v35).Color.Green), vU ((gi y28 v35).Color.Blue), vU ((gi y28 v35).Color.Alpha)])] [4, 37] (fS [4, 37] [vP b1, vG [vU ((gi y28 v35).Kind), vS (gi y28 v35).Word, vI ((gi y28 v35).Num), vU ((gi y28 v35).Color.Red), vU ((gi y28 v35).Color.Green), vU ((gi y28 v35).Color.Blue), vU ((gi y28 v35).Color.Alpha)]]) [rN b41 0 [vU ((gi y28 v35).Kind), vS (gi y28 v35).Word, vI ((gi y28 v35).Num), vU ((gi y28 v35).Color.Red), vU ((gi y28 v35).Color.Green), vU ((gi y28 v35).Color.Blue), vU ((gi y28 v35).Color.Alpha)]] H50 (by decide) (by kernel_rfl) ⟨((hS.bk 0 rfl).atD rfl), trivial⟩ fun _ _ H52 hb => ?_
   replace hS := hS.below hb
   clear H50 hb
   have hd := hS.hand [2] [0, 1, 3, 4] rfl rfl
   refine m_stp0 [4] [(4, [], vP b1)] H52 rfl rfl rfl (o_store [vU ((gi y28 v35).Kind), vS (gi y28 v35).Word, vI ((gi y28 v35).Num), vU ((gi y28 v35).Color.Red), vU ((gi y28 v35).Color.Green), vU ((gi y28 v35).Color.Blue), vU ((gi y28 v35).Color.Alpha)] H52 hd rfl rfl (by kernel_rfl) rfl rfl rfl) rfl fun _ _ H54 hq => ?_
   clear H52 hd
   obtain ⟨_, hq⟩ := hq
   replace hS : SH M X w [eB b1 [vU ((gi y28 v35).Kind), vS (gi y28 v35).Word, vI ((gi y28 v35).Num), vU ((gi y28 v35).Color.Red), vU ((gi y28 v35).Color.Green), vU ((gi y28 v35).Color.Blue), vU ((gi y28 v35).Color.Alpha)], eB b41 [vU ((gi y28 v35).Kind), vS (gi y28 v35).Word, vI ((gi y28 v35).Num), vU ((gi y28 v35).Color.Red), vU ((gi y28 v35).Color.Green), vU ((gi y28 v35).Color.Blue), vU ((gi y28 v35).Color.Alpha)], eO 57 tyVal y28 g29, eI tyValue l_ g_l_, gE0] _ := hS.join [2] [0, 1, 3, 4] rfl rfl hq
   clear hq
   refine wl_batch 2 3 [] [4, 5] (fS [4, 5] [vP b1, vI 0]) [] H54 (by decide) (by kernel_rfl) trivial fun _ _ H56 hb => ?_
   replace hS := hS.below hb
   clear H54 hb
   apply wl_end rfl
   replace hS : SH M X w [eB b1 [vU ((gi y28 v35).Kind), vS (gi y28 v35).Word, vI ((gi y28 v35).Num), vU ((gi y28 v35).Color.Red), vU ((gi y28 v35).Color.Green), vU ((gi y28 v35).Color.Blue), vU ((gi y28 v35).Color.Alpha)], eO 57 tyVal y28 g29, eI tyValue l_ g_l_, gE0] _ := hS.sel [0, 2, 3, 4] rfl
   apply w_ret
   obtain rfl := someE hm
   have hm := hm_z23
   obtain rfl := someE hm
   exact retR2 H56 rfl (oneRes_agg rfl (hS.bk 0 rfl) Tryz.underlying57 rfl (by kernel_rfl)) rfl ⟨_, rfl, rfl, (hS.sel [] rfl)⟩
 ·rintro _ _ ⟨s_z23, hz, H, hS⟩
  subst hz
  replace hm := sumR hm_z23
  replace hS : SH M X w [eB b1 [vU 0, vN, vI 0, vU 0, vU 0, vU 0, vU 0], gE0] _ := hS.sel [0, 2] rfl
  apply w_seq
  apply wl_start
  refine wl_batch 0 1 [] [4, 39] (fS [4, 39] [vP b1, vG [vU 0, vN, vI 0, vU 0, vU 0, vU 0, vU 0]]) [] H (by decide) (by kernel_rfl) trivial fun _ _ H63 hb => ?_
  replace hS := hS.below hb
  clear H hb
  have hd := hS.hand [0] [1] rfl rfl
  refine m_stp0 [4] [(4, [], vP b1)] H63 rfl rfl rfl (o_store [vU 0, vN, vI 0, vU 0, vU 0, vU 0, vU 0] H63 hd rfl rfl (by kernel_rfl) rfl rfl rfl) rfl fun _ _ H65 hq => ?_
  clear H63 hd
  obtain ⟨_, hq⟩ := hq
  replace hS : SH M X w [eB b1 [vU 0, vN, vI 0, vU 0, vU 0, vU 0, vU 0], gE0] _ := hS.join [0] [1] rfl rfl hq
  clear hq
  refine wl_batch 2 3 [] [4, 5] (fS [4, 5] [vP b1, vI 12]) [] H65 (by decide) (by kernel_rfl) trivial fun _ _ H67 hb => ?_
  replace hS := hS.below hb
  clear H65 hb
  apply wl_end rfl
  apply w_ret
  obtain rfl := someE hm
  exact retR2 H67 rfl (oneRes_agg rfl (hS.bk 0 rfl) Tryz.underlying57 rfl (by kernel_rfl)) rfl ⟨_, rfl, rfl, (hS.sel [] rfl)⟩
theorem parseval_Parse_ok {g_l_ : Gh} (m : Nat) (prop : Int) (l_ : List TValue) (r : TVal × Int) (hm : parseval_Parse m prop l_ = some r) (w : World) (hL : S0 F0 [eI tyValue l_ g_l_, gE0] w ∧ fpl [eI tyValue l_ g_l_, gE0] = []) : RetB Tryz.prog 19 ⟨[vI prop, vL g_l_ l_]⟩ (vW [vG (cV r.1), vI r.2]) w := retB_of hL (Tryz.call19 _) (fun w' h => parseval_Parse_w F0 m   prop l_ r hm w' h)

theorem short_right_w {g_l_ : Gh} (M : Av) (m : Nat) (name_ : Str) (l_ : List TValue) (r : Bool) (hm : short_right m name_ l_ = some r) (w : World) (hS : S0 M [eI tyValue l_ g_l_, gE0] w) : Calls Tryz.prog 41 ⟨[vS name_, vL g_l_ l_]⟩ w (fun e w' => ∃ v, e = .returned v ∧ v = vB r ∧ SH M (fpl [eI tyValue l_ g_l_, gE0]) w [] w') := by
 rw [short_right] at hm
 have hS0 : SH M (fpl [eI tyValue l_ g_l_, gE0]) w [eI tyValue l_ g_l_, gE0] w := hS
 generalize hX : fpl [eI tyValue l_ g_l_, gE0] = X at hS0 ⊢
 clear hS hX
 have hS := hS0
 clear hS0
 refine calls_entryP Tryz.func41 rfl Tryz.ntmps41 rfl fun _ H => ?_
 refine s_reg [] [0, 1] (fS [0, 1] [vS name_, vL g_l_ l_]) [] H (by kernel_rfl) trivial fun _ _ H2 hb => ?_
 replace hS := hS.below hb
 clear H hb
 obtain ⟨y3, hy3, hm⟩ := bindE hm
 refine s_reg [(vW [vI y3.1, vI y3.2])] [1, 5, 6] (fS [1, 5, 6] [vL g_l_ l_, vI y3.1, vI y3.2]) [rB 27 [vS name_] (vW [vI y3.1, vI y3.2])] H2 (by kernel_rfl) ⟨(props_Find_ok 64 _ _ hy3 _ (s0im s0nil (hS.im 1 rfl))), trivial⟩ fun _ _ H5 hb => ?_
 replace hS := hS.below hb
 clear H2 hb
 apply w_seq
 refine s_reg [] [1, 5, 13] (fS [1, 5, 13] [vL g_l_ l_, vI y3.1, vB (y3.2 != 0)]) [] H5 (by kernel_rfl) trivial fun _ _ H7 hb => ?_
 replace hS := hS.below hb
 clear H5 hb
 refine w_if H7 rfl (fun hc => ?c15) (fun hc => ?_)
 case c15 =>
  replace hm := bT hc hm
  refine s_reg [] [4] [(4, [], vF)] [] H7 (by kernel_rfl) trivial fun _ _ H9 hb => ?_
  replace hS := hS.below hb
  clear H7 hb
  replace hS : SH M X w [gE0] _ := hS.sel [1] rfl
  apply w_ret
  obtain rfl := someE hm
  exact retR1 H9 rfl rfl ⟨_, rfl, rfl, (hS.sel [] rfl)⟩
 replace hm := bF hc hm
 apply w_skip
 obtain ⟨y10, hy10, hm⟩ := bindE hm
 refine s_reg [(vW [vG (cV y10.1), vI y10.2])] [6] [(6, [], vI y10.2)] [rB 19 [vI y3.1, vL g_l_ l_] (vW [vG (cV y10.1), vI y10.2])] H7 (by kernel_rfl) ⟨(parseval_Parse_ok (g_l_ := g_l_) m _ _ _ hy10 _ (s0im (s0im s0nil (hS.im 1 rfl)) (hS.im 0 rfl))), trivial⟩ fun _ _ H12 hb => ?_
 replace hS := hS.below hb
 clear H7 hb
 replace hS : SH M X w [gE0] _ := hS.sel [1] rfl
 refine s_reg [] [4] [(4, [], vB (y10.2 == 0))] [] H12 (by kernel_rfl) trivial fun _ _ H14 hb => ?_
 replace hS := hS.below hb
 clear H12 hb
 apply w_ret
 obtain rfl := someE hm
 exact retR1 H14 rfl rfl ⟨_, rfl, rfl, (hS.sel [] rfl)⟩
theorem short_right_ok {g_l_ : Gh} (m : Nat) (name_ : Str) (l_ : List TValue) (r : Bool) (hm : short_right m name_ l_ = some r) (w : World) (hL : S0 F0 [eI tyValue l_ g_l_, gE0] w ∧ fpl [eI tyValue l_ g_l_, gE0] = []) : RetB Tryz.prog 41 ⟨[vS name_, vL g_l_ l_]⟩ (vB r) w := retB_of hL (Tryz.call41 _) (fun w' h => short_right_w F0 m   name_ l_ r hm w' h)

theorem short_parts_w {g_l_ : Gh} (M : Av) (m : Nat) (whole : Str) (l_ : List TValue) (r : List (List TValue)) (hm : short_parts m whole l_ = some r) (w : World) (hS : S0 M [eI tyValue l_ g_l_, gE0] w) : Calls Tryz.prog 36 ⟨[vS whole, vL g_l_ l_]⟩ w (fun e w' => ∃ v, e = .returned v ∧ ∃ (g901 : Gh), v = vL g901 r ∧ SH M (fpl [eI tyValue l_ g_l_, gE0]) w [eO 22 (Ty.sl tyValue) r g901] w') := by
 rw [short_parts] at hm
 have hS0 : SH M (fpl [eI tyValue l_ g_l_, gE0]) w [eI tyValue l_ g_l_, gE0] w := hS
 generalize hX : fpl [eI tyValue l_ g_l_, gE0] = X at hS0 ⊢
 clear hS hX
 have hS := hS0
 clear hS0
 refine calls_entryP Tryz.func36 rfl Tryz.ntmps36 rfl fun _ H => ?_
 refine s_reg [] [0, 1] (fS [0, 1] [vS whole, vL g_l_ l_]) [] H (by kernel_rfl) trivial fun _ _ H2 hb => ?_
 replace hS := hS.below hb
 clear H hb
 apply w_seq
 apply wl_start
 refine wl_batch 0 1 [] [0, 1, 9] (fS [0, 1, 9] [vS whole, vL g_l_ l_, vL g_l_ l_]) [] H2 (by decide) (by kernel_rfl) trivial fun _ _ H4 hb => ?_
 replace hS := hS.below hb
 clear H2 hb
 have hd := hS.hand [0] [0, 1] rfl rfl
 refine m_stp [10, 0, 1] (fS [0, 1] [vS whole, vL g_l_ l_]) H4 rfl rfl rfl rfl (o_lit (T := (Ty.sl tyValue)) (E := 22) (zv := vO) [vL g_l_ l_] ([l_] : List (List TValue)) [gL [g_l_]] _ H4 hd rfl (by kernel_rfl) (by kernel_rfl) (by kernel_rfl) (by kernel_rfl) (by kernel_rfl) (by kernel_rfl) (by kernel_rfl) rfl (InnL.cons (hd.im 0 rfl) InnL.nil)) (fun _ => rfl) fun _ _ v H8 hq => ?_
 clear H4 hd
 obtain ⟨g5, rfl, hq⟩ := hq
 replace hS : SH M X w [eO 22 (Ty.sl tyValue) ([l_] : List (List TValue)) g5, eI tyValue l_ g_l_, gE0] _ := hS.join [0] [0, 1] rfl rfl hq
 clear hq
 refine wl_batch 2 3 [] [0, 1, 5] (fS [0, 1, 5] [vS whole, vL g_l_ l_, vK g5 1]) [] H8 (by decide) (by kernel_rfl) trivial fun _ _ H10 hb => ?_
 replace hS := hS.below hb
 clear H8 hb
 apply wl_end rfl
 obtain ⟨z11, hz, hm⟩ := bindE hm
 refine w_cut (fun a' w' => ∃ (g24 : Gh), Fr 38 (fS [0, 5] [vS whole, vL g24 z11]) a' ∧ SH M X w [eO 22 (Ty.sl tyValue) z11 g24, eI tyValue l_ g_l_, gE0] w') ?_ ?_
 ·replace hm := hz
  refine s_reg [] [0, 1, 5, 12] (fS [0, 1, 5, 12] [vS whole, vL g_l_ l_, vK g5 1, vB (whole == [109, 97, 114, 103, 105, 110])]) [] H10 (by kernel_rfl) trivial fun _ _ H13 hb => ?_
  replace hS := hS.below hb
  clear H10 hb
  refine w_if H13 rfl (fun hc => ?_) (fun hc => ?c23)
  case c23 =>
   replace hm := bF hc hm
   apply w_skip
   obtain rfl := someE hm
   exact ⟨g5, FrG.keep (ks := [0, 5]) H13 (by kernel_rfl), hS⟩
  replace hm := bT hc hm
  apply wl_start
  refine wl_batch 0 1 [] [0, 13] (fS [0, 13] [vS whole, vL g_l_ l_]) [] H13 (by decide) (by kernel_rfl) trivial fun _ _ H15 hb => ?_
  replace hS := hS.below hb
  clear H13 hb
  obtain ⟨y16, hy16, hm⟩ := bindE hm
  have hd := hS.hand [1] [0, 1, 2] rfl rfl
  refine m_stp [14, 0] [(0, [], vS whole)] H15 rfl rfl rfl rfl (o_callx H15 rfl rfl (short_sides_ok (g_l_ := g_l_) m _ _ hy16 _ _ hd)) (fun _ => rfl) fun _ _ v H20 hq => ?_
  clear H15 hd
  obtain ⟨g17, rfl, hq⟩ := hq
  replace hS : SH M X w [eO 22 (Ty.sl tyValue) y16 g17, eO 22 (Ty.sl tyValue) ([l_] : List (List TValue)) g5, eI tyValue l_ g_l_, gE0] _ := hS.join [1] [0, 1, 2] rfl rfl hq
  clear hq
  refine wl_batch 2 3 [] [0, 5] (fS [0, 5] [vS whole, vL g17 y16]) [] H20 (by decide) (by kernel_rfl) trivial fun _ _ H22 hb => ?_
  replace hS := hS.below hb
  clear H20 hb
  apply wl_end rfl
  obtain rfl := someE hm
  replace hS : SH M X w [eO 22 (Ty.sl tyValue) y16 g17, eI tyValue l_ g_l_, gE0] _ := hS.sel [0, 2, 3] rfl
  exact ⟨g17, FrG.keep (ks := [0, 5]) H22 (by kernel_rfl), hS⟩
 ·rintro _ _ ⟨g24, H, hS⟩
  replace hS : SH M X w [eO 22 (Ty.sl tyValue) z11 g24, gE0] _ := hS.sel [0, 2] rfl
  apply w_seq
  apply wl_start
  refine wl_batch 0 1 [] [5, 15] (fS [5, 15] [vL g24 z11, vS whole]) [] H (by decide) (by kernel_rfl) trivial fun _ _ H27 hb => ?_
  replace hS := hS.below hb
  clear H hb
  obtain ⟨y28, hy28, hm⟩ := bindE hm
  have hd := hS.hand [] [0, 1] rfl rfl
  refine m_stp [16, 5] [(5, [], vL g24 z11)] H27 rfl rfl rfl rfl (o_callx H27 rfl rfl (short_of_ok 64 _ _ hy28 _ _ hd)) (fun _ => rfl) fun _ _ v H32 hq => ?_
  clear H27 hd
  obtain ⟨g29, rfl, hq⟩ := hq
  replace hS : SH M X w [eO 9 tS y28 g29, eO 22 (Ty.sl tyValue) z11 g24, gE0] _ := hS.join [] [0, 1] rfl rfl hq
  clear hq
  refine wl_batch 2 3 [] [5, 6] (fS [5, 6] [vL g24 z11, vL g29 y28]) [] H32 (by decide) (by kernel_rfl) trivial fun _ _ H34 hb => ?_
  replace hS := hS.below hb
  clear H32 hb
  apply wl_end rfl
  apply w_seq
  refine s_reg [] [5, 6, 21] (fS [5, 6, 21] [vL g24 z11, vL g29 y28, vB ((ln z11) != (ln y28))]) [] H34 (by kernel_rfl) trivial fun _ _ H36 hb => ?_
  replace hS := hS.below hb
  clear H34 hb
  refine w_if H36 rfl (fun hc => ?c64) (fun hc => ?_)
  case c64 =>
   replace hm := bT hc hm
   refine s_reg [] [4] [(4, [], vO)] [] H36 (by kernel_rfl) trivial fun _ _ H38 hb => ?_
   replace hS := hS.below hb
   clear H36 hb
   replace hS : SH M X w [gE0] _ := hS.sel [2] rfl
   apply w_ret
   obtain rfl := someE hm
   replace hS : SH M X w [eO 22 (Ty.sl tyValue) ([] : List (List TValue)) (.nil), gE0] _ := hS.addNil 22 (Ty.sl tyValue)
   exact retR1 H38 rfl rfl ⟨_, rfl, Gh.nil, rfl, (hS.sel [0] rfl)⟩
  replace hm := bF hc hm
  apply w_skip
  obtain ⟨z40, hz, hm_z40⟩ := bindE hm
  refine w_cut (fun a' w' => ∃ s_z40 : Unit, z40 = Sum.inr s_z40 ∧ Fr 38 [(5, [], vL g24 z11)] a' ∧ SH M X w [eO 9 tS y28 g29, eO 22 (Ty.sl tyValue) z11 g24, gE0] w') ?_ ?_
  ·replace hm := hz
   refine s_reg [] [5, 22, 23, 24] (fS [5, 22, 23, 24] [vL g24 z11, vL g29 y28, vI (ln y28), vI 0]) [] H36 (by kernel_rfl) trivial fun _ _ H42 hb => ?_
   replace hS := hS.below hb
   clear H36 hb
   apply w_block
   refine w_loop (fun kk a' w' => ∃ (v43 : Int), short_parts_L1 m z11 y28 kk v43 = some _ ∧ Fr 38 (fS [5, 22, 23, 24] [vL g24 z11, vL g29 y28, vI (ln y28), vI v43]) a' ∧ SH M X w [eO 9 tS y28 g29, eO 22 (Ty.sl tyValue) z11 g24, gE0] w') ⟨_, 0, hm, FrG.keep (ks := [5, 22, 23, 24]) H42 (by kernel_rfl), hS⟩ ?_
   clear hm H42 hS
   rintro kk _ _ ⟨v43, hm, H, hS⟩
   cases kk with
   | zero => exact noneE hm
   | succ kk =>
    rw [short_parts_L1] at hm
    refine s_reg [] [5, 22, 23, 24, 25] (fS [5, 22, 23, 24, 25] [vL g24 z11, vL g29 y28, vI (ln y28), vI v43, vB (decide (v43 < (ln y28)))]) [] H (by kernel_rfl) trivial fun _ _ H45 hb => ?_
    replace hS := hS.below hb
    clear H hb
    apply w_seq
    refine w_if H45 rfl (fun hc => ?_) (fun hc => ?c59)
    case c59 =>
     replace hm := bF hc hm
     apply w_exit rfl
     obtain rfl := someE hm
     exact ⟨_, rfl, FrG.keep (ks := [5]) H45 (by kernel_rfl), hS⟩
    replace hm := bT hc hm
    apply w_skip
    apply w_seq
    apply w_block
    obtain ⟨ho46, hm⟩ := chkE hm
    refine s_reg [(vS (gi y28 v43))] [5, 7, 8, 22, 23, 24] (fS [5, 7, 8, 22, 23, 24] [vL g24 z11, vI v43, vS (gi y28 v43), vL g29 y28, vI (ln y28), vI v43]) [fun _ => oka g29.a ∧ 0 ≤ v43 ∧ v43 < ln y28, fun wz => V.at1 ⟨ab g29.a, ao g29.a + (v43).toNat * 1, none⟩ (vS (gi y28 v43)) wz] H45 (by kernel_rfl) ⟨((hS.osl 0 rfl).oki ho46), ((hS.osl 0 rfl).at1 ho46 0 rfl), trivial⟩ fun _ _ H48 hb => ?_
    replace hS := hS.below hb
    clear H45 hb
    obtain ⟨ho49, hm⟩ := chkE hm
    obtain ⟨y50, hy50, hm⟩ := bindE hm
    refine s_reg [(.slice (g24.s (v43).toNat 0).a ((gi z11 v43).length) (g24.s (v43).toNat 0).c), (vB y50)] [5, 22, 23, 24, 35] (fS [5, 22, 23, 24, 35] [vL g24 z11, vL g29 y28, vI (ln y28), vI v43, vB (!y50)]) [fun _ => oka g24.a ∧ 0 ≤ v43 ∧ v43 < ln z11, fun wz => V.at1 ⟨ab g24.a, ao g24.a + (v43).toNat * 1, none⟩ (.slice (g24.s (v43).toNat 0).a ((gi z11 v43).length) (g24.s (v43).toNat 0).c) wz, rB 41 [vS (gi y28 v43), .slice (g24.s (v43).toNat 0).a ((gi z11 v43).length) (g24.s (v43).toNat 0).c] (vB y50)] H48 (by kernel_rfl) ⟨((hS.osl 1 rfl).oki ho49), ((hS.osl 1 rfl).at1 ho49 0 rfl), (short_right_ok (g_l_ := (g24.s (v43).toNat 0)) m _ _ _ hy50 _ (s0im (s0im s0nil (hS.im 2 rfl)) (sl_inn ((hS.osl 1 rfl).el ho49)))), trivial⟩ fun _ _ H52 hb => ?_
    replace hS := hS.below hb
    clear H48 hb
    refine w_if H52 rfl (fun hc => ?_) (fun hc => ?c58)
    case c58 =>
     replace hm := bF hc hm
     apply w_skip
     refine w_reg [] [5, 22, 23, 24] (fS [5, 22, 23, 24] [vL g24 z11, vL g29 y28, vI (ln y28), vI (w64 (v43 + 1))]) [] H52 (by kernel_rfl) trivial fun _ _ H57 hb => ?_
     replace hS := hS.below hb
     clear H52 hb
     exact ⟨_, Nat.lt_succ_self _, w64 (v43 + 1), hm, FrG.keep (ks := [5, 22, 23, 24]) H57 (by kernel_rfl), hS⟩
    replace hm := bT hc hm
    refine s_reg [] [4] [(4, [], vO)] [] H52 (by kernel_rfl) trivial fun _ _ H54 hb => ?_
    replace hS := hS.below hb
    clear H52 hb
    apply w_ret
    obtain rfl := someE hm
    have hm := hm_z40
    obtain rfl := someE hm
    replace hS : SH M X w [eO 22 (Ty.sl tyValue) ([] : List (List TValue)) (.nil), eO 9 tS y28 g29, eO 22 (Ty.sl tyValue) z11 g24, gE0] _ := hS.addNil 22 (Ty.sl tyValue)
    exact retR1 H54 rfl rfl ⟨_, rfl, Gh.nil, rfl, (hS.sel [0] rfl)⟩
  ·rintro _ _ ⟨s_z40, hz, H, hS⟩
   subst hz
   replace hm := sumR hm_z40
   replace hS : SH M X w [eO 22 (Ty.sl tyValue) z11 g24, gE0] _ := hS.sel [1, 2] rfl
   refine s_reg [] [4] [(4, [], vL g24 z11)] [] H (by kernel_rfl) trivial fun _ _ H62 hb => ?_
   replace hS := hS.below hb
   clear H hb
   apply w_ret
   obtain rfl := someE hm
   exact retR1 H62 rfl rfl ⟨_, rfl, g24, rfl, (hS.sel [0] rfl)⟩
theorem short_parts_ok {g_l_ : Gh} (m : Nat) (whole : Str) (l_ : List TValue) (r : List (List TValue)) (hm : short_parts m whole l_ = some r) (M : Av) (w : World) (hS : S0 M [eI tyValue l_ g_l_, gE0] w) : DoesX Tryz.prog 36 ⟨[vS whole, vL g_l_ l_]⟩ w (fun v w' => ∃ (g901 : Gh), v = vL g901 r ∧ SH M (fpl [eI tyValue l_ g_l_, gE0]) w [eO 22 (Ty.sl tyValue) r g901] w') := ⟨Tryz.call36 _, short_parts_w M m   whole l_ r hm w hS⟩

def short_clone_S (rec_ : (List TValue) → Option (List TValue)) : Prop := ∀ (g_l_ : Gh) (M : Av) (l_ : List TValue) (r : List TValue), rec_ l_ = some r → ∀ w, S0 M [eI tyValue l_ g_l_] w → Calls Tryz.prog 37 ⟨[vL g_l_ l_]⟩ w (fun e w' => ∃ v, e = .returned v ∧ ∃ (g901 : Gh), v = vL g901 r ∧ SH M (fpl [eI tyValue l_ g_l_]) w [eO 51 tyValue r g901] w')
theorem short_clone_w (m : Nat) : ∀ (k : Nat), short_clone_S (short_clone_r m  k) := by
 intro k
 induction k with
 | zero => intro g_l_ M l_ r hm; exact noneE hm
 | succ k ih =>
  intro g_l_ M l_ r hm w hS
  rw [short_clone_r] at hm
  have hS0 : SH M (fpl [eI tyValue l_ g_l_]) w [eI tyValue l_ g_l_] w := hS
  generalize hX : fpl [eI tyValue l_ g_l_] = X at hS0 ⊢
  clear hS hX
  have hS := hS0
  clear hS0
  refine calls_entryP Tryz.func37 rfl Tryz.ntmps37 rfl fun _ H => ?_
  refine s_reg [] [0] [(0, [], vL g_l_ l_)] [] H (by kernel_rfl) trivial fun _ _ H2 hb => ?_
  replace hS := hS.below hb
  clear H hb
  refine s_reg [] [0, 3] (fS [0, 3] [vL g_l_ l_, vO]) [] H2 (by kernel_rfl) trivial fun _ _ H4 hb => ?_
  replace hS := hS.below hb
  clear H2 hb
  obtain ⟨z5, hz, hm⟩ := bindE hm
  refine w_cut (fun a' w' => ∃ (g42 : Gh), Fr 23 [(3, [], vL g42 z5)] a' ∧ SH M X w [eO 51 tyValue z5 g42, eI tyValue l_ g_l_] w') ?_ ?_
  ·replace hm := hz
   refine s_reg [] [3, 6, 7, 8] (fS [3, 6, 7, 8] [vO, vL g_l_ l_, vI (ln l_), vI 0]) [] H4 (by kernel_rfl) trivial fun _ _ H7 hb => ?_
   replace hS := hS.below hb
   clear H4 hb
   apply w_block
   replace hS : SH M X w [eO 51 tyValue ([] : List TValue) (.nil), eI tyValue l_ g_l_] _ := hS.addNil 51 tyValue
   refine w_loop (fun kk a' w' => ∃ (v9 : List TValue) (v11 : Int) (g10 : Gh), short_clone_L1 m l_ (short_clone_r m k) kk v9 v11 = some _ ∧ Fr 23 (fS [6, 7, 3, 8] [vL g_l_ l_, vI (ln l_), vL g10 v9, vI v11]) a' ∧ SH M X w [eO 51 tyValue v9 g10, eI tyValue l_ g_l_] w') ⟨_, ([] : List TValue), 0, Gh.nil, hm, FrG.keep (ks := [6, 7, 3, 8]) H7 (by kernel_rfl), hS⟩ ?_
   clear hm H7 hS
   rintro kk _ _ ⟨v9, v11, g10, hm, H, hS⟩
   cases kk with
   | zero => exact noneE hm
   | succ kk =>
    rw [short_clone_L1] at hm
    refine s_reg [] [3, 6, 7, 8, 9] (fS [3, 6, 7, 8, 9] [vL g10 v9, vL g_l_ l_, vI (ln l_), vI v11, vB (decide (v11 < (ln l_)))]) [] H (by kernel_rfl) trivial fun _ _ H13 hb => ?_
    replace hS := hS.below hb
    clear H hb
    apply w_seq
    refine w_if H13 rfl (fun hc => ?_) (fun hc => ?c40)
    case c40 =>
     replace hm := bF hc hm
     apply w_exit rfl
     obtain rfl := someE hm
     exact ⟨g10, FrG.keep (ks := [3]) H13 (by kernel_rfl), hS⟩
    replace hm := bT hc hm
    apply w_skip
    apply w_seq
    apply w_block
    apply w_seq
    apply wl_start
    obtain ⟨ho14, hm⟩ := chkE hm
    refine wl_batch 0 2 [(vG [vU ((gi l_ v11).Token.Kind), vS (gi l_ v11).Token.Text, vI ((gi l_ v11).Token.Num), vS (gi l_ v11).Token.Unit, vB ((gi l_ v11).Token.Flag), .slice (g_l_.s (v11).toNat 0).a (((gi l_ v11).List_).length) (g_l_.s (v11).toNat 0).c])] [3, 6, 7, 8, 11] (fS [3, 6, 7, 8, 11] [vL g10 v9, vL g_l_ l_, vI (ln l_), vI v11, vG [vU ((gi l_ v11).Token.Kind), vS (gi l_ v11).Token.Text, vI ((gi l_ v11).Token.Num), vS (gi l_ v11).Token.Unit, vB ((gi l_ v11).Token.Flag), .slice (g_l_.s (v11).toNat 0).a (((gi l_ v11).List_).length) (g_l_.s (v11).toNat 0).c]]) [fun _ => oka g_l_.a ∧ 0 ≤ v11 ∧ v11 < ln l_, fun wz => V.atN (ab g_l_.a) (ao g_l_.a + (v11).toNat * 6) [vU ((gi l_ v11).Token.Kind), vS (gi l_ v11).Token.Text, vI ((gi l_ v11).Token.Num), vS (gi l_ v11).Token.Unit, vB ((gi l_ v11).Token.Flag), .slice (g_l_.s (v11).toNat 0).a (((gi l_ v11).List_).length) (g_l_.s (v11).toNat 0).c] 0 wz] H13 (by decide) (by kernel_rfl) ⟨((hS.im 1 rfl).oki ho14), ((hS.im 1 rfl).atA ho14 0 rfl), trivial⟩ fun _ _ H16 hb => ?_
    replace hS := hS.below hb
    clear H13 hb
    have hd := hS.hand [] [0, 1] rfl rfl
    refine m_stp [5, 3, 6, 7, 8, 11] (fS [3, 6, 7, 8, 11] [vL g10 v9, vL g_l_ l_, vI (ln l_), vI v11, vG [vU ((gi l_ v11).Token.Kind), vS (gi l_ v11).Token.Text, vI ((gi l_ v11).Token.Num), vS (gi l_ v11).Token.Unit, vB ((gi l_ v11).Token.Flag), .slice (g_l_.s (v11).toNat 0).a (((gi l_ v11).List_).length) (g_l_.s (v11).toNat 0).c]]) H16 rfl rfl rfl rfl (o_alloc [vU 0, vN, vI 0, vN, vF, vO] (z := vG [vU 0, vN, vI 0, vN, vF, vO]) hd (by kernel_rfl) rfl) (fun _ => rfl) fun _ _ v H19 hq => ?_
    clear H16 hd
    obtain ⟨b17, rfl, hq⟩ := hq
    replace hS : SH M X w [eB b17 [vU 0, vN, vI 0, vN, vF, vO], eO 51 tyValue v9 g10, eI tyValue l_ g_l_] _ := hS.join [] [0, 1] rfl rfl hq
    clear hq
    have hd := hS.hand [0] [1, 2] rfl rfl
    refine m_stp0 [3, 5, 6, 7, 8] (fS [3, 5, 6, 7, 8] [vL g10 v9, vP b17, vL g_l_ l_, vI (ln l_), vI v11]) H19 rfl rfl rfl (o_store [vU ((gi l_ v11).Token.Kind), vS (gi l_ v11).Token.Text, vI ((gi l_ v11).Token.Num), vS (gi l_ v11).Token.Unit, vB ((gi l_ v11).Token.Flag), .slice (g_l_.s (v11).toNat 0).a (((gi l_ v11).List_).length) (g_l_.s (v11).toNat 0).c] H19 hd rfl rfl (by kernel_rfl) rfl rfl rfl) rfl fun _ _ H21 hq => ?_
    clear H19 hd
    obtain ⟨_, hq⟩ := hq
    replace hS : SH M X w [eB b17 [vU ((gi l_ v11).Token.Kind), vS (gi l_ v11).Token.Text, vI ((gi l_ v11).Token.Num), vS (gi l_ v11).Token.Unit, vB ((gi l_ v11).Token.Flag), .slice (g_l_.s (v11).toNat 0).a (((gi l_ v11).List_).length) (g_l_.s (v11).toNat 0).c], eO 51 tyValue v9 g10, eI tyValue l_ g_l_] _ := hS.join [0] [1, 2] rfl rfl hq
    clear hq
    apply wl_end rfl
    obtain ⟨y24, hy24, hm⟩ := bindE hm
    obtain ⟨ho29, hm⟩ := chkE hm
    obtain ⟨q30, hq30, hm⟩ := letE hm
    refine w_drawS (base := (fS [5, 6, 7, 8] [vP b17, vL g_l_ l_, vI (ln l_), vI v11])) (L := [eB b17 [vU ((gi l_ v11).Token.Kind), vS (gi l_ v11).Token.Text, vI ((gi l_ v11).Token.Num), vS (gi l_ v11).Token.Unit, vB ((gi l_ v11).Token.Flag), .slice (g_l_.s (v11).toNat 0).a (((gi l_ v11).List_).length) (g_l_.s (v11).toNat 0).c], eO 51 tyValue v9 g10, eI tyValue l_ g_l_]) 10 3 (fun yg22 => [vL g10 v9, vP b17, vG [vU ((gi l_ v11).Token.Kind), vS (gi l_ v11).Token.Text, vI ((gi l_ v11).Token.Num), vS (gi l_ v11).Token.Unit, vB ((gi l_ v11).Token.Flag)], vA b17 5, .slice (g_l_.s (v11).toNat 0).a (((gi l_ v11).List_).length) (g_l_.s (v11).toNat 0).c, .slice (yg22 5 0).a y24.length (yg22 5 0).c, vG [vU ((gi l_ v11).Token.Kind), vS (gi l_ v11).Token.Text, vI ((gi l_ v11).Token.Num), vS (gi l_ v11).Token.Unit, vB ((gi l_ v11).Token.Flag), .slice (yg22 5 0).a y24.length (yg22 5 0).c], vK (yg22 7 0) 1, .slice (yg22 8 0).a q30.length (yg22 8 0).c, .slice (yg22 8 0).a q30.length (yg22 8 0).c]) (fun yg22 => [[], [], [], [], [], [eO 51 tyValue y24 (yg22 5 0), eI tyValue ((gi l_ v11).List_) (g_l_.s (v11).toNat 0)], [], [eO 51 tyValue ([(TValue.mk ((gi l_ v11).Token) y24)] : List TValue) (yg22 7 0), eI tyValue y24 (yg22 5 0), eI tyValue ((gi l_ v11).List_) (g_l_.s (v11).toNat 0)], [eO 51 tyValue q30 (yg22 8 0)], []]) [[], [10, 12], [10, 12], [10, 12], [10, 12], [12], [5], [5], [7, 11], [8]] [[], [], [], [], [], [], [], [5], [11], []] [[0], [1], [1, 2], [3], [3, 4], [3, 4, 5], [1, 2, 3, 4, 5, 6], [1, 2, 3, 4, 5, 6, 7], [0, 1, 2, 3, 4, 5, 6, 7, 8], [0, 1, 2, 3, 4, 5, 6, 7, 8, 9]] [(3, 9, vL g10 v9)] (FrG.keep (ks := [5, 6, 7, 8]) H21 (by kernel_rfl)) (fun k e h => by rcases k with _ | k <;> first | (obtain rfl := Option.some.inj h; exact FrG.slot H21 (by kernel_rfl)) | cases h) (by kernel_rfl) hS (by kernel_rfl) rfl rfl (by kernel_rfl) (by kernel_rfl) (by kernel_rfl) (gd_none (by kernel_rfl) _ _) ?hloc_yg22 ?hstep_yg22 fun _ _ yg22 H33 hv hS => ?hK_yg22
    case hloc_yg22 => exact ⟨(fun _ _ _ _ => ⟨rfl, rfl⟩), (fun _ _ _ _ => ⟨rfl, rfl⟩), (fun _ _ _ _ => ⟨rfl, rfl⟩), (fun _ _ _ _ => ⟨rfl, rfl⟩), (fun _ _ _ _ => ⟨rfl, rfl⟩), (fun _ i g hi => lcG [5] (fun yg22 => (.slice (yg22 5 0).a y24.length (yg22 5 0).c, [eO 51 tyValue y24 (yg22 5 0), eI tyValue ((gi l_ v11).List_) (g_l_.s (v11).toNat 0)])) hi rfl), (fun _ i g hi => lcG [5] (fun yg22 => (vG [vU ((gi l_ v11).Token.Kind), vS (gi l_ v11).Token.Text, vI ((gi l_ v11).Token.Num), vS (gi l_ v11).Token.Unit, vB ((gi l_ v11).Token.Flag), .slice (yg22 5 0).a y24.length (yg22 5 0).c], [])) hi rfl), (fun _ i g hi => lcG [5, 7] (fun yg22 => (vK (yg22 7 0) 1, [eO 51 tyValue ([(TValue.mk ((gi l_ v11).Token) y24)] : List TValue) (yg22 7 0), eI tyValue y24 (yg22 5 0), eI tyValue ((gi l_ v11).List_) (g_l_.s (v11).toNat 0)])) hi rfl), (fun _ i g hi => lcG [8] (fun yg22 => (.slice (yg22 8 0).a q30.length (yg22 8 0).c, [eO 51 tyValue q30 (yg22 8 0)])) hi rfl), (fun _ i g hi => lcG [8] (fun yg22 => (.slice (yg22 8 0).a q30.length (yg22 8 0).c, [])) hi rfl), trivial⟩
    case hstep_yg22 =>
     refine ⟨?_, ?_, ?_, ?_, ?_, ?_, ?_, ?_, ?_, ?_, trivial⟩
     ·intro o ho a w yg22 M Hb hv hO hS
      obtain rfl := someE ho
      exact Stp.mono (o_evs [] (vL g10 v9) none [] ((Hb).add (hO 0 _ rfl (by kernel_rfl))) rfl (by kernel_rfl) (fun q e => by cases e)) fun _ _ hq => ⟨gL [], fun _ _ => hq.1, (hS.below hq.2.below).sel [] rfl⟩
     ·intro o ho a w yg22 M Hb hv hO hS
      obtain rfl := someE ho
      exact Stp.mono (o_evs [] (vP b17) none [] Hb rfl (by kernel_rfl) (fun q e => by cases e)) fun _ _ hq => ⟨gL [], fun _ _ => hq.1, (hS.below hq.2.below).sel [0, 1] rfl⟩
     ·intro o ho a w yg22 M Hb hv hO hS
      obtain rfl := someE ho
      exact Stp.mono (o_evs [(vG [vU ((gi l_ v11).Token.Kind), vS (gi l_ v11).Token.Text, vI ((gi l_ v11).Token.Num), vS (gi l_ v11).Token.Unit, vB ((gi l_ v11).Token.Flag)])] (vG [vU ((gi l_ v11).Token.Kind), vS (gi l_ v11).Token.Text, vI ((gi l_ v11).Token.Num), vS (gi l_ v11).Token.Unit, vB ((gi l_ v11).Token.Flag)]) (some (rN b17 0 [vU ((gi l_ v11).Token.Kind), vS (gi l_ v11).Token.Text, vI ((gi l_ v11).Token.Num), vS (gi l_ v11).Token.Unit, vB ((gi l_ v11).Token.Flag)])) [] ((Hb).add (hv 1 (by decide) (by decide) 13 rfl)) rfl (by kernel_rfl) (fun q e => by cases e; exact ((hS.bk 0 rfl).atD rfl))) fun _ _ hq => ⟨gL [], fun _ _ => hq.1, (hS.below hq.2.below).sel [0, 1] rfl⟩
     ·intro o ho a w yg22 M Hb hv hO hS
      obtain rfl := someE ho
      exact Stp.mono (o_evs [] (vA b17 5) none [] Hb rfl (by kernel_rfl) (fun q e => by cases e)) fun _ _ hq => ⟨gL [], fun _ _ => hq.1, (hS.below hq.2.below).sel [0, 1] rfl⟩
     ·intro o ho a w yg22 M Hb hv hO hS
      obtain rfl := someE ho
      exact Stp.mono (o_evs [(.slice (g_l_.s (v11).toNat 0).a (((gi l_ v11).List_).length) (g_l_.s (v11).toNat 0).c)] (.slice (g_l_.s (v11).toNat 0).a (((gi l_ v11).List_).length) (g_l_.s (v11).toNat 0).c) (some (fun wz => V.at1 ⟨b17, 5, none⟩ (.slice (g_l_.s (v11).toNat 0).a (((gi l_ v11).List_).length) (g_l_.s (v11).toNat 0).c) wz)) [] ((Hb).add (hv 3 (by decide) (by decide) 15 rfl)) rfl (by kernel_rfl) (fun q e => by cases e; exact ((hS.bk 0 rfl).at1 rfl))) fun _ _ hq => ⟨gL [], fun _ _ => hq.1, (hS.below hq.2.below).sel [0, 1] rfl⟩
     ·intro o ho a w yg22 M Hb hv hO hS0
      obtain rfl := someE ho
      have H : Fr 23 ([(16, [], .slice (g_l_.s (v11).toNat 0).a (((gi l_ v11).List_).length) (g_l_.s (v11).toNat 0).c)] ++ (fS [5, 6, 7, 8] [vP b17, vL g_l_ l_, vI (ln l_), vI v11])) _ := (Hb).add (hv 4 (by decide) (by decide) 16 rfl)
      obtain ⟨X, hX⟩ : ∃ X, X = fpl [eI tyValue l_ g_l_] := ⟨_, rfl⟩
      have hS : SH M X w [eI tyValue l_ g_l_] w := by rw [hX]; exact hS0
      replace hS : SH M X w [eI tyValue ((gi l_ v11).List_) (g_l_.s (v11).toNat 0), eI tyValue l_ g_l_] _ := hS.addIm (tyValue_i0 ((hS.im 0 rfl).el ho14))
      have hd := hS.hand [0] [0, 1] rfl rfl
      refine Stp.mono (o_callx H rfl rfl (⟨Tryz.call37 _, ih ((g_l_.s (v11).toNat 0)) _ _ _ hy24 _ hd⟩ : DoesX _ _ _ _ _)) ?_
      rintro v w2 hq
      obtain ⟨g25, rfl, hq⟩ := hq
      replace hS : SH M X w [eO 51 tyValue y24 g25, eI tyValue ((gi l_ v11).List_) (g_l_.s (v11).toNat 0), eI tyValue l_ g_l_] _ := hS.join [0] [0, 1] rfl rfl hq
      clear hq
      rw [hX] at hS
      exact ⟨gL [g25], fun _ _ => rfl, hS.sel [0, 1, 2] rfl⟩
     ·intro o ho a w yg22 M Hb hv hO hS
      obtain rfl := someE ho
      exact Stp.mono (o_evs [] (vG [vU ((gi l_ v11).Token.Kind), vS (gi l_ v11).Token.Text, vI ((gi l_ v11).Token.Num), vS (gi l_ v11).Token.Unit, vB ((gi l_ v11).Token.Flag), .slice (yg22 5 0).a y24.length (yg22 5 0).c]) none [] (((Hb).add (hv 2 (by decide) (by decide) 14 rfl)).add (hv 5 (by decide) (by decide) 17 rfl)) rfl (by kernel_rfl) (fun q e => by cases e)) fun _ _ hq => ⟨gL [], fun _ _ => hq.1, (hS.below hq.2.below).sel [0, 1] rfl⟩
     ·intro o ho a w yg22 M Hb hv hO hS0
      obtain rfl := someE ho
      have H : Fr 23 ([(18, [], vG [vU ((gi l_ v11).Token.Kind), vS (gi l_ v11).Token.Text, vI ((gi l_ v11).Token.Num), vS (gi l_ v11).Token.Unit, vB ((gi l_ v11).Token.Flag), .slice (yg22 5 0).a y24.length (yg22 5 0).c])] ++ (fS [5, 6, 7, 8] [vP b17, vL g_l_ l_, vI (ln l_), vI v11])) _ := (Hb).add (hv 6 (by decide) (by decide) 18 rfl)
      obtain ⟨X, hX⟩ : ∃ X, X = fpl [eO 51 tyValue y24 (yg22 5 0), eI tyValue ((gi l_ v11).List_) (g_l_.s (v11).toNat 0)] := ⟨_, rfl⟩
      have hS : SH M X w [eO 51 tyValue y24 (yg22 5 0), eI tyValue ((gi l_ v11).List_) (g_l_.s (v11).toNat 0)] w := by rw [hX]; exact hS0
      replace hS : SH M X w [eI tyValue y24 (yg22 5 0), eI tyValue ((gi l_ v11).List_) (g_l_.s (v11).toNat 0)] _ := SH.frz1 (hS.sel [0, 1] rfl)
      have hd := hS.hand [0] [0, 1] rfl rfl
      refine Stp.mono (o_lit (T := tyValue) (E := 51) (zv := vG [vU 0, vN, vI 0, vN, vF, vO]) [vU ((gi l_ v11).Token.Kind), vS (gi l_ v11).Token.Text, vI ((gi l_ v11).Token.Num), vS (gi l_ v11).Token.Unit, vB ((gi l_ v11).Token.Flag), .slice (yg22 5 0).a y24.length (yg22 5 0).c] ([(TValue.mk ((gi l_ v11).Token) y24)] : List TValue) [gL [(yg22 5 0)]] _ H hd rfl (by kernel_rfl) (by kernel_rfl) (by kernel_rfl) (by kernel_rfl) (by kernel_rfl) (by kernel_rfl) (by kernel_rfl) rfl (InnL.cons (tyValue_mk (hd.im 0 rfl)) InnL.nil)) ?_
      rintro v w2 hq
      obtain ⟨g27, rfl, hq⟩ := hq
      replace hS : SH M X w [eO 51 tyValue ([(TValue.mk ((gi l_ v11).Token) y24)] : List TValue) g27, eI tyValue y24 (yg22 5 0), eI tyValue ((gi l_ v11).List_) (g_l_.s (v11).toNat 0)] _ := hS.join [0] [0, 1] rfl rfl hq
      clear hq
      rw [hX] at hS
      exact ⟨gL [g27], fun _ _ => rfl, hS.sel [0, 1, 2] rfl⟩
     ·intro o ho a w yg22 M Hb hv hO hS0
      obtain rfl := someE ho
      have H : Fr 23 ((fS [19, 12] [vK (yg22 7 0) 1, vL g10 v9]) ++ (fS [5, 6, 7, 8] [vP b17, vL g_l_ l_, vI (ln l_), vI v11])) _ := ((Hb).add (hv 0 (by decide) (by decide) 12 rfl)).add (hv 7 (by decide) (by decide) 19 rfl)
      obtain ⟨X, hX⟩ : ∃ X, X = fpl [eO 51 tyValue ([(TValue.mk ((gi l_ v11).Token) y24)] : List TValue) (yg22 7 0), eI tyValue y24 (yg22 5 0), eI tyValue ((gi l_ v11).List_) (g_l_.s (v11).toNat 0), eO 51 tyValue v9 g10] := ⟨_, rfl⟩
      have hS : SH M X w [eO 51 tyValue ([(TValue.mk ((gi l_ v11).Token) y24)] : List TValue) (yg22 7 0), eI tyValue y24 (yg22 5 0), eI tyValue ((gi l_ v11).List_) (g_l_.s (v11).toNat 0), eO 51 tyValue v9 g10] w := by rw [hX]; exact hS0
      have hd := hS.hand [3, 0] [1, 2] rfl rfl
      refine Stp.mono (o_app2 (T := tyValue) (zv := vG [vU 0, vN, vI 0, vN, vF, vO]) (g1 := g10) (g2 := (yg22 7 0)) (l1 := v9) (l2 := ([(TValue.mk ((gi l_ v11).Token) y24)] : List TValue)) q30 hq30.symm H hd rfl rfl rfl rfl rfl rfl rfl (by kernel_rfl) (by kernel_rfl) rfl rfl ho29) ?_
      rintro v w2 hq
      obtain ⟨g31, rfl, hq⟩ := hq
      replace hS : SH M X w [eO 51 tyValue q30 g31, eO 51 tyValue ([(TValue.mk ((gi l_ v11).Token) y24)] : List TValue) (yg22 7 0), eI tyValue y24 (yg22 5 0), eI tyValue ((gi l_ v11).List_) (g_l_.s (v11).toNat 0)] _ := hS.join [3, 0] [1, 2] rfl rfl hq
      clear hq
      rw [hX] at hS
      exact ⟨gL [g31], fun _ _ => rfl, hS.sel [0, 1, 2, 3] rfl⟩
     ·intro o ho a w yg22 M Hb hv hO hS
      obtain rfl := someE ho
      exact Stp.mono (o_evs [] (.slice (yg22 8 0).a q30.length (yg22 8 0).c) none [] ((Hb).add (hv 8 (by decide) (by decide) 20 rfl)) rfl (by kernel_rfl) (fun q e => by cases e)) fun _ _ hq => ⟨gL [], fun _ _ => hq.1, (hS.below hq.2.below).sel [0] rfl⟩
    have H34 : Fr 23 (fS [3, 6, 7, 8] [.slice (yg22 8 0).a q30.length (yg22 8 0).c, vL g_l_ l_, vI (ln l_), vI v11]) _ := (FrG.add (FrG.keep (ks := [6, 7, 8]) H33 (by kernel_rfl)) (hv 9 3 rfl))
    replace hS : SH M X w [eO 51 tyValue ([(TValue.mk ((gi l_ v11).Token) y24)] : List TValue) (yg22 7 0), eI tyValue y24 (yg22 5 0), eI tyValue ((gi l_ v11).List_) (g_l_.s (v11).toNat 0), eO 51 tyValue q30 (yg22 8 0), eB b17 [vU ((gi l_ v11).Token.Kind), vS (gi l_ v11).Token.Text, vI ((gi l_ v11).Token.Num), vS (gi l_ v11).Token.Unit, vB ((gi l_ v11).Token.Flag), .slice (g_l_.s (v11).toNat 0).a (((gi l_ v11).List_).length) (g_l_.s (v11).toNat 0).c], eI tyValue l_ g_l_] _ := hS
    clear hv H33
    generalize yg22 8 0 = g35 at H34 hS
    generalize yg22 7 0 = g36 at H34 hS
    generalize yg22 5 0 = g37 at H34 hS
    replace hS : SH M X w [eO 51 tyValue q30 g35, eI tyValue l_ g_l_] _ := hS.sel [3, 5] rfl
    refine w_reg [] [3, 6, 7, 8] (fS [3, 6, 7, 8] [vL g35 q30, vL g_l_ l_, vI (ln l_), vI (w64 (v11 + 1))]) [] H34 (by kernel_rfl) trivial fun _ _ H39 hb => ?_
    replace hS := hS.below hb
    clear H34 hb
    exact ⟨_, Nat.lt_succ_self _, q30, w64 (v11 + 1), g35, hm, FrG.keep (ks := [6, 7, 3, 8]) H39 (by kernel_rfl), hS⟩
  ·rintro _ _ ⟨g42, H, hS⟩
   replace hS : SH M X w [eO 51 tyValue z5 g42] _ := hS.sel [0] rfl
   refine s_reg [] [2] [(2, [], vL g42 z5)] [] H (by kernel_rfl) trivial fun _ _ H45 hb => ?_
   replace hS := hS.below hb
   clear H hb
   apply w_ret
   obtain rfl := someE hm
   exact retR1 H45 rfl rfl ⟨_, rfl, g42, rfl, (hS.sel [0] rfl)⟩
theorem short_clone_ok {g_l_ : Gh} (m : Nat) (l_ : List TValue) (r : List TValue) (hm : short_clone m l_ = some r) (M : Av) (w : World) (hS : S0 M [eI tyValue l_ g_l_] w) : DoesX Tryz.prog 37 ⟨[vL g_l_ l_]⟩ w (fun v w' => ∃ (g901 : Gh), v = vL g901 r ∧ SH M (fpl [eI tyValue l_ g_l_]) w [eO 51 tyValue r g901] w') := ⟨Tryz.call37 _, short_clone_w m   m g_l_ M l_ r hm w hS⟩

theorem short_Part_w {g_l_ : Gh} (M : Av) (m : Nat) (whole : Str) (long : Str) (l_ : List TValue) (r : (List TValue) × Int) (hm : short_Part m whole long l_ = some r) (w : World) (hS : S0 M [eI tyValue l_ g_l_, gE0] w) : Calls Tryz.prog 11 ⟨[vS whole, vS long, vL g_l_ l_]⟩ w (fun e w' => ∃ v, e = .returned v ∧ ∃ (g901 : Gh), v = vW [vL g901 r.1, vI r.2] ∧ SH M (fpl [eI tyValue l_ g_l_, gE0]) w [eO 51 tyValue r.1 g901] w') := by
 rw [short_Part] at hm
 have hS0 : SH M (fpl [eI tyValue l_ g_l_, gE0]) w [eI tyValue l_ g_l_, gE0] w := hS
 generalize hX : fpl [eI tyValue l_ g_l_, gE0] = X at hS0 ⊢
 clear hS hX
 have hS := hS0
 clear hS0
 refine calls_entryP Tryz.func11 rfl Tryz.ntmps11 rfl fun _ H => ?_
 refine s_reg [] [0, 1, 2] (fS [0, 1, 2] [vS whole, vS long, vL g_l_ l_]) [] H (by kernel_rfl) trivial fun _ _ H2 hb => ?_
 replace hS := hS.below hb
 clear H hb
 apply w_seq
 obtain ⟨y3, hy3, hm⟩ := bindE hm
 refine s_reg [(vI y3)] [0, 1, 2, 8] (fS [0, 1, 2, 8] [vS whole, vS long, vL g_l_ l_, vI y3]) [rB 34 [vL g_l_ l_] (vI y3)] H2 (by kernel_rfl) ⟨(nest_Check_ok (g_v_ := g_l_) m _ _ hy3 _ (s0im s0nil (hS.im 0 rfl))), trivial⟩ fun _ _ H5 hb => ?_
 replace hS := hS.below hb
 clear H2 hb
 refine s_reg [] [0, 1, 2, 8, 14] (fS [0, 1, 2, 8, 14] [vS whole, vS long, vL g_l_ l_, vI y3, vB (y3 != 0)]) [] H5 (by kernel_rfl) trivial fun _ _ H7 hb => ?_
 replace hS := hS.below hb
 clear H5 hb
 refine w_if H7 rfl (fun hc => ?c53) (fun hc => ?_)
 case c53 =>
  replace hm := bT hc hm
  refine s_reg [] [6, 7] (fS [6, 7] [vO, vI y3]) [] H7 (by kernel_rfl) trivial fun _ _ H9 hb => ?_
  replace hS := hS.below hb
  clear H7 hb
  replace hS : SH M X w [gE0] _ := hS.sel [1] rfl
  apply w_ret
  obtain rfl := someE hm
  replace hS : SH M X w [eO 51 tyValue ([] : List TValue) (.nil), gE0] _ := hS.addNil 51 tyValue
  exact retR2 H9 rfl rfl rfl ⟨_, rfl, Gh.nil, rfl, (hS.sel [0] rfl)⟩
 replace hm := bF hc hm
 apply w_skip
 apply w_seq
 apply wl_start
 refine wl_batch 0 1 [] [0, 1, 2, 16] (fS [0, 1, 2, 16] [vS whole, vS long, vL g_l_ l_, vS whole]) [] H7 (by decide) (by kernel_rfl) trivial fun _ _ H12 hb => ?_
 replace hS := hS.below hb
 clear H7 hb
 obtain ⟨y13, hy13, hm⟩ := bindE hm
 have hd := hS.hand [] [0, 1] rfl rfl
 refine m_stp [17, 0, 1, 2] (fS [0, 1, 2] [vS whole, vS long, vL g_l_ l_]) H12 rfl rfl rfl rfl (o_callx H12 rfl rfl (short_of_ok 64 _ _ hy13 _ _ hd)) (fun _ => rfl) fun _ _ v H17 hq => ?_
 clear H12 hd
 obtain ⟨g14, rfl, hq⟩ := hq
 replace hS : SH M X w [eO 9 tS y13 g14, eI tyValue l_ g_l_, gE0] _ := hS.join [] [0, 1] rfl rfl hq
 clear hq
 obtain ⟨y18, hy18, hm⟩ := bindE hm
 refine wl_batch 2 5 [(vI y18)] [0, 2, 9] (fS [0, 2, 9] [vS whole, vL g_l_ l_, vI y18]) [rB 35 [vL g14 y13, vS long] (vI y18)] H17 (by decide) (by kernel_rfl) ⟨(slices_Index_string_string_ok (g_s := g14) m _ _ _ hy18 _ (s0im s0nil (hS.osl 0 rfl))), trivial⟩ fun _ _ H20 hb => ?_
 replace hS := hS.below hb
 clear H17 hb
 apply wl_end rfl
 replace hS : SH M X w [eI tyValue l_ g_l_, gE0] _ := hS.sel [1, 2] rfl
 apply w_seq
 refine s_reg [] [0, 2, 9, 21] (fS [0, 2, 9, 21] [vS whole, vL g_l_ l_, vI y18, vB (decide (y18 < 0))]) [] H20 (by kernel_rfl) trivial fun _ _ H22 hb => ?_
 replace hS := hS.below hb
 clear H20 hb
 refine w_if H22 rfl (fun hc => ?c52) (fun hc => ?_)
 case c52 =>
  replace hm := bT hc hm
  refine s_reg [] [6, 7] (fS [6, 7] [vO, vI 6]) [] H22 (by kernel_rfl) trivial fun _ _ H24 hb => ?_
  replace hS := hS.below hb
  clear H22 hb
  replace hS : SH M X w [gE0] _ := hS.sel [1] rfl
  apply w_ret
  obtain rfl := someE hm
  replace hS : SH M X w [eO 51 tyValue ([] : List TValue) (.nil), gE0] _ := hS.addNil 51 tyValue
  exact retR2 H24 rfl rfl rfl ⟨_, rfl, Gh.nil, rfl, (hS.sel [0] rfl)⟩
 replace hm := bF hc hm
 apply w_skip
 apply w_seq
 apply wl_start
 refine wl_batch 0 2 [] [9, 22, 23] (fS [9, 22, 23] [vI y18, vS whole, vL g_l_ l_]) [] H22 (by decide) (by kernel_rfl) trivial fun _ _ H27 hb => ?_
 replace hS := hS.below hb
 clear H22 hb
 obtain ⟨y28, hy28, hm⟩ := bindE hm
 have hd := hS.hand [0, 1] [0, 1] rfl rfl
 refine m_stp [24, 9] [(9, [], vI y18)] H27 rfl rfl rfl rfl (o_callx H27 rfl rfl (short_parts_ok (g_l_ := g_l_) m _ _ _ hy28 _ _ hd)) (fun _ => rfl) fun _ _ v H32 hq => ?_
 clear H27 hd
 obtain ⟨g29, rfl, hq⟩ := hq
 replace hS : SH M X w [eO 22 (Ty.sl tyValue) y28 g29, eI tyValue l_ g_l_, gE0] _ := hS.join [0, 1] [0, 1] rfl rfl hq
 clear hq
 refine wl_batch 3 4 [] [9, 10] (fS [9, 10] [vI y18, vL g29 y28]) [] H32 (by decide) (by kernel_rfl) trivial fun _ _ H34 hb => ?_
 replace hS := hS.below hb
 clear H32 hb
 apply wl_end rfl
 replace hS : SH M X w [eO 22 (Ty.sl tyValue) y28 g29, gE0] _ := hS.sel [0, 2] rfl
 apply w_seq
 refine s_reg [] [9, 10, 27] (fS [9, 10, 27] [vI y18, vL g29 y28, vB ((ln y28) == 0)]) [] H34 (by kernel_rfl) trivial fun _ _ H36 hb => ?_
 replace hS := hS.below hb
 clear H34 hb
 refine w_if H36 rfl (fun hc => ?c51) (fun hc => ?_)
 case c51 =>
  replace hm := bT hc hm
  refine s_reg [] [6, 7] (fS [6, 7] [vO, vI 12]) [] H36 (by kernel_rfl) trivial fun _ _ H38 hb => ?_
  replace hS := hS.below hb
  clear H36 hb
  replace hS : SH M X w [gE0] _ := hS.sel [1] rfl
  apply w_ret
  obtain rfl := someE hm
  replace hS : SH M X w [eO 51 tyValue ([] : List TValue) (.nil), gE0] _ := hS.addNil 51 tyValue
  exact retR2 H38 rfl rfl rfl ⟨_, rfl, Gh.nil, rfl, (hS.sel [0] rfl)⟩
 replace hm := bF hc hm
 apply w_skip
 apply w_seq
 apply wl_start
 obtain ⟨ho40, hm⟩ := chkE hm
 refine wl_batch 0 4 [(.slice (g29.s (y18).toNat 0).a ((gi y28 y18).length) (g29.s (y18).toNat 0).c)] [31] [(31, [], .slice (g29.s (y18).toNat 0).a ((gi y28 y18).length) (g29.s (y18).toNat 0).c)] [fun _ => oka g29.a ∧ 0 ≤ y18 ∧ y18 < ln y28, fun wz => V.at1 ⟨ab g29.a, ao g29.a + (y18).toNat * 1, none⟩ (.slice (g29.s (y18).toNat 0).a ((gi y28 y18).length) (g29.s (y18).toNat 0).c) wz] H36 (by decide) (by kernel_rfl) ⟨((hS.osl 0 rfl).oki ho40), ((hS.osl 0 rfl).at1 ho40 0 rfl), trivial⟩ fun _ _ H42 hb => ?_
 replace hS := hS.below hb
 clear H36 hb
 replace hS : SH M X w [eI tyValue (gi y28 y18) (g29.s (y18).toNat 0), eO 22 (Ty.sl tyValue) y28 g29, gE0] _ := hS.addIm (sl_inn ((hS.ow 0 rfl).el ho40))
 obtain ⟨y44, hy44, hm⟩ := bindE hm
 have hd := hS.hand [0] [0, 1, 2] rfl rfl
 refine m_stp [32] [] H42 rfl rfl rfl rfl (o_callx H42 rfl rfl (short_clone_ok (g_l_ := (g29.s (y18).toNat 0)) m _ _ hy44 _ _ hd)) (fun _ => rfl) fun _ _ v H48 hq => ?_
 clear H42 hd
 obtain ⟨g45, rfl, hq⟩ := hq
 replace hS : SH M X w [eO 51 tyValue y44 g45, eI tyValue (gi y28 y18) (g29.s (y18).toNat 0), eO 22 (Ty.sl tyValue) y28 g29, gE0] _ := hS.join [0] [0, 1, 2] rfl rfl hq
 clear hq
 refine wl_batch 5 7 [] [6, 7] (fS [6, 7] [vL g45 y44, vI 0]) [] H48 (by decide) (by kernel_rfl) trivial fun _ _ H50 hb => ?_
 replace hS := hS.below hb
 clear H48 hb
 apply wl_end rfl
 replace hS : SH M X w [eO 51 tyValue y44 g45, gE0] _ := hS.sel [0, 3] rfl
 apply w_ret
 obtain rfl := someE hm
 exact retR2 H50 rfl rfl rfl ⟨_, rfl, g45, rfl, (hS.sel [0] rfl)⟩
theorem short_Part_ok {g_l_ : Gh} (m : Nat) (whole : Str) (long : Str) (l_ : List TValue) (r : (List TValue) × Int) (hm : short_Part m whole long l_ = some r) (M : Av) (w : World) (hS : S0 M [eI tyValue l_ g_l_, gE0] w) : DoesX Tryz.prog 11 ⟨[vS whole, vS long, vL g_l_ l_]⟩ w (fun v w' => ∃ (g901 : Gh), v = vW [vL g901 r.1, vI r.2] ∧ SH M (fpl [eI tyValue l_ g_l_, gE0]) w [eO 51 tyValue r.1 g901] w') := ⟨Tryz.call11 _, short_Part_w M m   whole long l_ r hm w hS⟩

def r04_Tokens_S (rec_ : (List TValue) → Option (List TToken)) : Prop := ∀ (g_v_ : Gh) (M : Av) (v_ : List TValue) (r : List TToken), rec_ v_ = some r → ∀ w, S0 M [eI tyValue v_ g_v_] w → Calls Tryz.prog 62 ⟨[vL g_v_ v_]⟩ w (fun e w' => ∃ v, e = .returned v ∧ ∃ (g901 : Gh), v = vL g901 r ∧ SH M (fpl [eI tyValue v_ g_v_]) w [eO 49 tyToken r g901] w')
theorem r04_Tokens_w (m : Nat) : ∀ (k : Nat), r04_Tokens_S (r04_Tokens_r m  k) := by
 intro k
 induction k with
 | zero => intro g_v_ M v_ r hm; exact noneE hm
 | succ k ih =>
  intro g_v_ M v_ r hm w hS
  rw [r04_Tokens_r] at hm
  have hS0 : SH M (fpl [eI tyValue v_ g_v_]) w [eI tyValue v_ g_v_] w := hS
  generalize hX : fpl [eI tyValue v_ g_v_] = X at hS0 ⊢
  clear hS hX
  have hS := hS0
  clear hS0
  refine calls_entryP Tryz.func62 rfl Tryz.ntmps62 rfl fun _ H => ?_
  refine s_reg [] [0] [(0, [], vL g_v_ v_)] [] H (by kernel_rfl) trivial fun _ _ H2 hb => ?_
  replace hS := hS.below hb
  clear H hb
  refine s_reg [] [0, 3] (fS [0, 3] [vL g_v_ v_, vO]) [] H2 (by kernel_rfl) trivial fun _ _ H4 hb => ?_
  replace hS := hS.below hb
  clear H2 hb
  obtain ⟨z5, hz, hm⟩ := bindE hm
  refine w_cut (fun a' w' => ∃ (g69 : Gh), Fr 43 [(3, [], vL g69 z5)] a' ∧ SH M X w [eO 49 tyToken z5 g69, eI tyValue v_ g_v_] w') ?_ ?_
  ·replace hm := hz
   refine s_reg [] [0, 3, 4] (fS [0, 3, 4] [vL g_v_ v_, vO, vI 0]) [] H4 (by kernel_rfl) trivial fun _ _ H7 hb => ?_
   replace hS := hS.below hb
   clear H4 hb
   apply w_block
   replace hS : SH M X w [eO 49 tyToken ([] : List TToken) (.nil), eI tyValue v_ g_v_] _ := hS.addNil 49 tyToken
   refine w_loop (fun kk a' w' => ∃ (v9 : List TToken) (v11 : Int) (g10 : Gh), r04_Tokens_L1 m v_ (r04_Tokens_r m k) kk v9 v11 = some _ ∧ Fr 43 (fS [0, 3, 4] [vL g_v_ v_, vL g10 v9, vI v11]) a' ∧ SH M X w [eO 49 tyToken v9 g10, eI tyValue v_ g_v_] w') ⟨_, ([] : List TToken), 0, Gh.nil, hm, FrG.keep (ks := [0, 3, 4]) H7 (by kernel_rfl), hS⟩ ?_
   clear hm H7 hS
   rintro kk _ _ ⟨v9, v11, g10, hm, H, hS⟩
   cases kk with
   | zero => exact noneE hm
   | succ kk =>
    rw [r04_Tokens_L1] at hm
    apply w_seq
    refine s_reg [] [0, 3, 4, 9] (fS [0, 3, 4, 9] [vL g_v_ v_, vL g10 v9, vI v11, vB (decide (v11 < (ln v_)))]) [] H (by kernel_rfl) trivial fun _ _ H13 hb => ?_
    replace hS := hS.below hb
    clear H hb
    refine w_if H13 rfl (fun hc => ?_) (fun hc => ?c67)
    case c67 =>
     replace hm := bF hc hm
     apply w_exit rfl
     obtain rfl := someE hm
     exact ⟨g10, FrG.keep (ks := [3]) H13 (by kernel_rfl), hS⟩
    replace hm := bT hc hm
    apply w_skip
    obtain ⟨z14, hz, hm⟩ := bindE hm
    refine w_cut (fun a' w' => ∃ (g63 : Gh), Fr 43 (fS [0, 4, 3] [vL g_v_ v_, vI v11, vL g63 z14]) a' ∧ SH M X w [eO 49 tyToken z14 g63, eI tyValue v_ g_v_] w') ?_ ?_
    ·replace hm := hz
     apply w_block
     apply w_seq
     apply wl_start
     obtain ⟨ho15, hm⟩ := chkE hm
     refine wl_batch 0 6 [(vG [vU ((gi v_ v11).Token.Kind), vS (gi v_ v11).Token.Text, vI ((gi v_ v11).Token.Num), vS (gi v_ v11).Token.Unit, vB ((gi v_ v11).Token.Flag)])] [0, 4, 12, 17] (fS [0, 4, 12, 17] [vL g_v_ v_, vI v11, vL g10 v9, vG [vU ((gi v_ v11).Token.Kind), vS (gi v_ v11).Token.Text, vI ((gi v_ v11).Token.Num), vS (gi v_ v11).Token.Unit, vB ((gi v_ v11).Token.Flag)]]) [fun _ => oka g_v_.a ∧ 0 ≤ v11 ∧ v11 < ln v_, fun wz => V.atN (ab g_v_.a) (ao g_v_.a + (v11).toNat * 6) [vU ((gi v_ v11).Token.Kind), vS (gi v_ v11).Token.Text, vI ((gi v_ v11).Token.Num), vS (gi v_ v11).Token.Unit, vB ((gi v_ v11).Token.Flag)] 0 wz] H13 (by decide) (by kernel_rfl) ⟨((hS.im 1 rfl).oki ho15), ((hS.im 1 rfl).atA ho15 0 rfl), trivial⟩ fun _ _ H17 hb => ?_
     replace hS := hS.below hb
     clear H13 hb
     have hd := hS.hand [] [0, 1] rfl rfl
     refine m_stp [18, 0, 4, 12] (fS [0, 4, 12] [vL g_v_ v_, vI v11, vL g10 v9]) H17 rfl rfl rfl rfl (o_lit (T := tyToken) (E := 49) (zv := vG [vU 0, vN, vI 0, vN, vF]) [vU ((gi v_ v11).Token.Kind), vS (gi v_ v11).Token.Text, vI ((gi v_ v11).Token.Num), vS (gi v_ v11).Token.Unit, vB ((gi v_ v11).Token.Flag)] ([(gi v_ v11).Token] : List TToken) [gL []] _ H17 hd rfl (by kernel_rfl) (by kernel_rfl) (by kernel_rfl) (by kernel_rfl) (by kernel_rfl) (by kernel_rfl) (by kernel_rfl) rfl (InnL.cons trivial InnL.nil)) (fun _ => rfl) fun _ _ v H21 hq => ?_
     clear H17 hd
     obtain ⟨g18, rfl, hq⟩ := hq
     replace hS : SH M X w [eO 49 tyToken ([(gi v_ v11).Token] : List TToken) g18, eO 49 tyToken v9 g10, eI tyValue v_ g_v_] _ := hS.join [] [0, 1] rfl rfl hq
     clear hq
     obtain ⟨ho22, hm⟩ := chkE hm
     obtain ⟨q23, hq23, hm⟩ := letE hm
     have hd := hS.hand [1, 0] [2] rfl rfl
     refine m_stp [19, 0, 4] (fS [0, 4] [vL g_v_ v_, vI v11]) H21 rfl rfl rfl rfl (o_app2 (T := tyToken) (zv := vG [vU 0, vN, vI 0, vN, vF]) (g1 := g10) (g2 := g18) (l1 := v9) (l2 := ([(gi v_ v11).Token] : List TToken)) q23 hq23.symm H21 hd rfl rfl rfl rfl rfl rfl rfl (by kernel_rfl) (by kernel_rfl) rfl rfl ho22) (fun _ => rfl) fun _ _ v H25 hq => ?_
     clear H21 hd
     obtain ⟨g26, rfl, hq⟩ := hq
     replace hS : SH M X w [eO 49 tyToken q23 g26, eO 49 tyToken ([(gi v_ v11).Token] : List TToken) g18, eI tyValue v_ g_v_] _ := hS.join [1, 0] [2] rfl rfl hq
     clear hq
     refine wl_batch 8 9 [] [0, 3, 4] (fS [0, 3, 4] [vL g_v_ v_, vL g26 q23, vI v11]) [] H25 (by decide) (by kernel_rfl) trivial fun _ _ H28 hb => ?_
     replace hS := hS.below hb
     clear H25 hb
     apply wl_end rfl
     replace hS : SH M X w [eO 49 tyToken q23 g26, eI tyValue v_ g_v_] _ := hS.sel [0, 2] rfl
     refine s_reg [(vU ((gi v_ v11).Token.Kind)), (vU (r04_Closer ((gi v_ v11).Token.Kind)))] [0, 3, 4, 5] (fS [0, 3, 4, 5] [vL g_v_ v_, vL g26 q23, vI v11, vU (r04_Closer ((gi v_ v11).Token.Kind))]) [fun _ => oka g_v_.a ∧ 0 ≤ v11 ∧ v11 < ln v_, fun wz => V.at1 ⟨ab g_v_.a, ao g_v_.a + (v11).toNat * 6, none⟩ (vU ((gi v_ v11).Token.Kind)) wz, rB 56 [vU ((gi v_ v11).Token.Kind)] (vU (r04_Closer ((gi v_ v11).Token.Kind)))] H28 (by kernel_rfl) ⟨((hS.im 1 rfl).oki ho15), ((hS.im 1 rfl).at1 ho15 0 rfl), ((r04_Closer_ok _).b), trivial⟩ fun _ _ H30 hb => ?_
     replace hS := hS.below hb
     clear H28 hb
     obtain ⟨x31, hx31, hm⟩ := letE hm
     refine s_reg [] [0, 3, 4, 5, 28] (fS [0, 3, 4, 5, 28] [vL g_v_ v_, vL g26 q23, vI v11, vU (r04_Closer ((gi v_ v11).Token.Kind)), vB x31]) [] H30 (by subst hx31; kernel_rfl) trivial fun _ _ H33 hb => ?_
     replace hS := hS.below hb
     clear H30 hb
     refine w_if H33 rfl (fun hc => ?_) (fun hc => ?c62)
     case c62 =>
      replace hm := bF hc hm
      apply w_skip
      obtain rfl := someE hm
      exact ⟨g26, FrG.keep (ks := [0, 4, 3]) H33 (by kernel_rfl), hS⟩
     replace hm := bT hc hm
     apply w_seq
     apply wl_start
     refine wl_batch 0 6 [(.slice (g_v_.s (v11).toNat 0).a (((gi v_ v11).List_).length) (g_v_.s (v11).toNat 0).c)] [0, 4, 5, 29, 34] (fS [0, 4, 5, 29, 34] [vL g_v_ v_, vI v11, vU (r04_Closer ((gi v_ v11).Token.Kind)), vL g26 q23, .slice (g_v_.s (v11).toNat 0).a (((gi v_ v11).List_).length) (g_v_.s (v11).toNat 0).c]) [fun _ => oka g_v_.a ∧ 0 ≤ v11 ∧ v11 < ln v_, fun wz => V.at1 ⟨ab g_v_.a, ao g_v_.a + (v11).toNat * 6 + 5, none⟩ (.slice (g_v_.s (v11).toNat 0).a (((gi v_ v11).List_).length) (g_v_.s (v11).toNat 0).c) wz] H33 (by decide) (by kernel_rfl) ⟨((hS.im 1 rfl).oki ho15), ((hS.im 1 rfl).at1 ho15 5 rfl), trivial⟩ fun _ _ H35 hb => ?_
     replace hS := hS.below hb
     clear H33 hb
     replace hS : SH M X w [eI tyValue ((gi v_ v11).List_) (g_v_.s (v11).toNat 0), eO 49 tyToken q23 g26, eI tyValue v_ g_v_] _ := hS.addIm (tyValue_i0 ((hS.im 1 rfl).el ho15))
     obtain ⟨y37, hy37, hm⟩ := bindE hm
     have hd := hS.hand [0] [0, 1, 2] rfl rfl
     refine m_stp [35, 0, 4, 5, 29] (fS [0, 4, 5, 29] [vL g_v_ v_, vI v11, vU (r04_Closer ((gi v_ v11).Token.Kind)), vL g26 q23]) H35 rfl rfl rfl rfl (o_callx H35 rfl rfl (⟨Tryz.call62 _, ih ((g_v_.s (v11).toNat 0)) _ _ _ hy37 _ hd⟩ : DoesX _ _ _ _ _)) (fun _ => rfl) fun _ _ v H41 hq => ?_
     clear H35 hd
     obtain ⟨g38, rfl, hq⟩ := hq
     replace hS : SH M X w [eO 49 tyToken y37 g38, eI tyValue ((gi v_ v11).List_) (g_v_.s (v11).toNat 0), eO 49 tyToken q23 g26, eI tyValue v_ g_v_] _ := hS.join [0] [0, 1, 2] rfl rfl hq
     clear hq
     obtain ⟨ho42, hm⟩ := chkE hm
     obtain ⟨q43, hq43, hm⟩ := letE hm
     have hd := hS.hand [2, 0] [1, 3] rfl rfl
     refine m_stp [36, 0, 4, 5] (fS [0, 4, 5] [vL g_v_ v_, vI v11, vU (r04_Closer ((gi v_ v11).Token.Kind))]) H41 rfl rfl rfl rfl (o_app2 (T := tyToken) (zv := vG [vU 0, vN, vI 0, vN, vF]) (g1 := g26) (g2 := g38) (l1 := q23) (l2 := y37) q43 hq43.symm H41 hd rfl rfl rfl rfl rfl rfl rfl (by kernel_rfl) (by kernel_rfl) rfl rfl ho42) (fun _ => rfl) fun _ _ v H45 hq => ?_
     clear H41 hd
     obtain ⟨g46, rfl, hq⟩ := hq
     replace hS : SH M X w [eO 49 tyToken q43 g46, eO 49 tyToken y37 g38, eI tyValue ((gi v_ v11).List_) (g_v_.s (v11).toNat 0), eI tyValue v_ g_v_] _ := hS.join [2, 0] [1, 3] rfl rfl hq
     clear hq
     refine wl_batch 8 9 [] [0, 3, 4, 5] (fS [0, 3, 4, 5] [vL g_v_ v_, vL g46 q43, vI v11, vU (r04_Closer ((gi v_ v11).Token.Kind))]) [] H45 (by decide) (by kernel_rfl) trivial fun _ _ H48 hb => ?_
     replace hS := hS.below hb
     clear H45 hb
     apply wl_end rfl
     replace hS : SH M X w [eO 49 tyToken q43 g46, eI tyValue v_ g_v_] _ := hS.sel [0, 3] rfl
     apply wl_start
     refine wl_batch 0 3 [] [0, 4, 37, 39] (fS [0, 4, 37, 39] [vL g_v_ v_, vI v11, vL g46 q43, vG [vU (r04_Closer ((gi v_ v11).Token.Kind)), vN, vI 0, vN, vF]]) [] H48 (by decide) (by kernel_rfl) trivial fun _ _ H50 hb => ?_
     replace hS := hS.below hb
     clear H48 hb
     have hd := hS.hand [] [0, 1] rfl rfl
     refine m_stp [40, 0, 4, 37] (fS [0, 4, 37] [vL g_v_ v_, vI v11, vL g46 q43]) H50 rfl rfl rfl rfl (o_lit (T := tyToken) (E := 49) (zv := vG [vU 0, vN, vI 0, vN, vF]) [vU (r04_Closer ((gi v_ v11).Token.Kind)), vN, vI 0, vN, vF] ([(TToken.mk (r04_Closer ((gi v_ v11).Token.Kind)) [] 0 [] false)] : List TToken) [gL []] _ H50 hd rfl (by kernel_rfl) (by kernel_rfl) (by kernel_rfl) (by kernel_rfl) (by kernel_rfl) (by kernel_rfl) (by kernel_rfl) rfl (InnL.cons trivial InnL.nil)) (fun _ => rfl) fun _ _ v H54 hq => ?_
     clear H50 hd
     obtain ⟨g51, rfl, hq⟩ := hq
     replace hS : SH M X w [eO 49 tyToken ([(TToken.mk (r04_Closer ((gi v_ v11).Token.Kind)) [] 0 [] false)] : List TToken) g51, eO 49 tyToken q43 g46, eI tyValue v_ g_v_] _ := hS.join [] [0, 1] rfl rfl hq
     clear hq
     obtain ⟨ho55, hm⟩ := chkE hm
     obtain ⟨q56, hq56, hm⟩ := letE hm
     have hd := hS.hand [1, 0] [2] rfl rfl
     refine m_stp [41, 0, 4] (fS [0, 4] [vL g_v_ v_, vI v11]) H54 rfl rfl rfl rfl (o_app2 (T := tyToken) (zv := vG [vU 0, vN, vI 0, vN, vF]) (g1 := g46) (g2 := g51) (l1 := q43) (l2 := ([(TToken.mk (r04_Closer ((gi v_ v11).Token.Kind)) [] 0 [] false)] : List TToken)) q56 hq56.symm H54 hd rfl rfl rfl rfl rfl rfl rfl (by kernel_rfl) (by kernel_rfl) rfl rfl ho55) (fun _ => rfl) fun _ _ v H58 hq => ?_
     clear H54 hd
     obtain ⟨g59, rfl, hq⟩ := hq
     replace hS : SH M X w [eO 49 tyToken q56 g59, eO 49 tyToken ([(TToken.mk (r04_Closer ((gi v_ v11).Token.Kind)) [] 0 [] false)] : List TToken) g51, eI tyValue v_ g_v_] _ := hS.join [1, 0] [2] rfl rfl hq
     clear hq
     refine wl_batch 5 6 [] [0, 3, 4] (fS [0, 3, 4] [vL g_v_ v_, vL g59 q56, vI v11]) [] H58 (by decide) (by kernel_rfl) trivial fun _ _ H61 hb => ?_
     replace hS := hS.below hb
     clear H58 hb
     apply wl_end rfl
     replace hS : SH M X w [eO 49 tyToken q56 g59, eI tyValue v_ g_v_] _ := hS.sel [0, 2] rfl
     obtain rfl := someE hm
     exact ⟨g59, FrG.keep (ks := [0, 4, 3]) H61 (by kernel_rfl), hS⟩
    ·rintro _ _ ⟨g63, H, hS⟩
     refine w_reg [] [0, 3, 4] (fS [0, 3, 4] [vL g_v_ v_, vL g63 z14, vI (w64 (v11 + 1))]) [] H (by kernel_rfl) trivial fun _ _ H65 hb => ?_
     replace hS := hS.below hb
     clear H hb
     exact ⟨_, Nat.lt_succ_self _, z14, w64 (v11 + 1), g63, hm, FrG.keep (ks := [0, 3, 4]) H65 (by kernel_rfl), hS⟩
  ·rintro _ _ ⟨g69, H, hS⟩
   replace hS : SH M X w [eO 49 tyToken z5 g69] _ := hS.sel [0] rfl
   refine s_reg [] [2] [(2, [], vL g69 z5)] [] H (by kernel_rfl) trivial fun _ _ H72 hb => ?_
   replace hS := hS.below hb
   clear H hb
   apply w_ret
   obtain rfl := someE hm
   exact retR1 H72 rfl rfl ⟨_, rfl, g69, rfl, (hS.sel [0] rfl)⟩
theorem r04_Tokens_ok {g_v_ : Gh} (m : Nat) (v_ : List TValue) (r : List TToken) (hm : r04_Tokens m v_ = some r) (M : Av) (w : World) (hS : S0 M [eI tyValue v_ g_v_] w) : DoesX Tryz.prog 62 ⟨[vL g_v_ v_]⟩ w (fun v w' => ∃ (g901 : Gh), v = vL g901 r ∧ SH M (fpl [eI tyValue v_ g_v_]) w [eO 49 tyToken r g901] w') := ⟨Tryz.call62 _, r04_Tokens_w m   m g_v_ M v_ r hm w hS⟩

def r04_shaped_S (rec_ : (List TValue) → Int → Option (Bool)) : Prop := ∀ (g_v_ : Gh) (M : Av) (v_ : List TValue) (closer : Int) (r : Bool), rec_ v_ closer = some r → ∀ w, S0 M [eI tyValue v_ g_v_] w → Calls Tryz.prog 63 ⟨[vL g_v_ v_, vU closer]⟩ w (fun e w' => ∃ v, e = .returned v ∧ v = vB r ∧ SH M (fpl [eI tyValue v_ g_v_]) w [] w')
theorem r04_shaped_w (m : Nat) : ∀ (k : Nat), r04_shaped_S (r04_shaped_r m  k) := by
 intro k
 induction k with
 | zero => intro g_v_ M v_ closer r hm; exact noneE hm
 | succ k ih =>
  intro g_v_ M v_ closer r hm w hS
  rw [r04_shaped_r] at hm
  have hS0 : SH M (fpl [eI tyValue v_ g_v_]) w [eI tyValue v_ g_v_] w := hS
  generalize hX : fpl [eI tyValue v_ g_v_] = X at hS0 ⊢
  clear hS hX
  have hS := hS0
  clear hS0
  refine calls_entryP Tryz.func63 rfl Tryz.ntmps63 rfl fun _ H => ?_
  refine s_reg [] [0, 1] (fS [0, 1] [vL g_v_ v_, vU closer]) [] H (by kernel_rfl) trivial fun _ _ H2 hb => ?_
  replace hS := hS.below hb
  clear H hb
  obtain ⟨z3, hz, hm_z3⟩ := bindE hm
  refine w_cut (fun a' w' => ∃ s_z3 : Unit, z3 = Sum.inr s_z3 ∧ Fr 59 [] a' ∧ SH M X w [eI tyValue v_ g_v_] w') ?_ ?_
  ·replace hm := hz
   refine s_reg [] [0, 1, 5] (fS [0, 1, 5] [vL g_v_ v_, vU closer, vI 0]) [] H2 (by kernel_rfl) trivial fun _ _ H5 hb => ?_
   replace hS := hS.below hb
   clear H2 hb
   apply w_block
   refine w_loop (fun kk a' w' => ∃ (v6 : Int), r04_shaped_L1 m v_ closer (r04_shaped_r m k) kk v6 = some _ ∧ Fr 59 (fS [0, 1, 5] [vL g_v_ v_, vU closer, vI v6]) a' ∧ SH M X w [eI tyValue v_ g_v_] w') ⟨_, 0, hm, FrG.keep (ks := [0, 1, 5]) H5 (by kernel_rfl), hS⟩ ?_
   clear hm H5 hS
   rintro kk _ _ ⟨v6, hm, H, hS⟩
   cases kk with
   | zero => exact noneE hm
   | succ kk =>
    rw [r04_shaped_L1] at hm
    apply w_seq
    refine s_reg [] [0, 1, 5, 10] (fS [0, 1, 5, 10] [vL g_v_ v_, vU closer, vI v6, vB (decide (v6 < (ln v_)))]) [] H (by kernel_rfl) trivial fun _ _ H8 hb => ?_
    replace hS := hS.below hb
    clear H hb
    refine w_if H8 rfl (fun hc => ?_) (fun hc => ?c24)
    case c24 =>
     replace hm := bF hc hm
     apply w_exit rfl
     obtain rfl := someE hm
     exact ⟨_, rfl, FrG.keep (ks := []) H8 (by kernel_rfl), hS⟩
    replace hm := bT hc hm
    apply w_skip
    apply w_seq
    apply w_block
    obtain ⟨ho9, hm⟩ := chkE hm
    refine s_reg [(vU ((gi v_ v6).Token.Kind)), (vU (r04_Closer ((gi v_ v6).Token.Kind)))] [0, 1, 5, 6] (fS [0, 1, 5, 6] [vL g_v_ v_, vU closer, vI v6, vU (r04_Closer ((gi v_ v6).Token.Kind))]) [fun _ => oka g_v_.a ∧ 0 ≤ v6 ∧ v6 < ln v_, fun wz => V.at1 ⟨ab g_v_.a, ao g_v_.a + (v6).toNat * 6, none⟩ (vU ((gi v_ v6).Token.Kind)) wz, rB 56 [vU ((gi v_ v6).Token.Kind)] (vU (r04_Closer ((gi v_ v6).Token.Kind)))] H8 (by kernel_rfl) ⟨((hS.im 0 rfl).oki ho9), ((hS.im 0 rfl).at1 ho9 0 rfl), ((r04_Closer_ok _).b), trivial⟩ fun _ _ H11 hb => ?_
    replace hS := hS.below hb
    clear H8 hb
    obtain ⟨x12, hx12, hm⟩ := letE hm
    obtain ⟨x13, hx13, hm⟩ := letE hm
    obtain ⟨x14, hx14, hm⟩ := letE hm
    obtain ⟨y15, hy15, hm⟩ := bindE hm
    obtain ⟨x16, hx16, hm⟩ := letE hm
    refine s_reg [(.slice (g_v_.s (v6).toNat 0).a (((gi v_ v6).List_).length) (g_v_.s (v6).toNat 0).c), (vU ((gi v_ v6).Token.Kind)), (.slice (g_v_.s (v6).toNat 0).a (((gi v_ v6).List_).length) (g_v_.s (v6).toNat 0).c), (vB y15)] [0, 1, 5, 58] (fS [0, 1, 5, 58] [vL g_v_ v_, vU closer, vI v6, vB x16]) [fun _ => (x12 = true ∧ True → oka g_v_.a ∧ 0 ≤ v6 ∧ v6 < ln v_), fun wz => (x12 = true ∧ True → V.at1 ⟨ab g_v_.a, ao g_v_.a + (v6).toNat * 6 + 5, none⟩ (.slice (g_v_.s (v6).toNat 0).a (((gi v_ v6).List_).length) (g_v_.s (v6).toNat 0).c) wz), fun _ => ((closer != 0) = true ∧ x13 = false ∧ True → oka g_v_.a ∧ 0 ≤ v6 ∧ v6 < ln v_), fun wz => ((closer != 0) = true ∧ x13 = false ∧ True → V.at1 ⟨ab g_v_.a, ao g_v_.a + (v6).toNat * 6, none⟩ (vU ((gi v_ v6).Token.Kind)) wz), fun _ => (((r04_Closer ((gi v_ v6).Token.Kind)) != 0) = true ∧ x14 = false ∧ True → oka g_v_.a ∧ 0 ≤ v6 ∧ v6 < ln v_), fun wz => (((r04_Closer ((gi v_ v6).Token.Kind)) != 0) = true ∧ x14 = false ∧ True → V.at1 ⟨ab g_v_.a, ao g_v_.a + (v6).toNat * 6 + 5, none⟩ (.slice (g_v_.s (v6).toNat 0).a (((gi v_ v6).List_).length) (g_v_.s (v6).toNat 0).c) wz), fun wz => (((r04_Closer ((gi v_ v6).Token.Kind)) != 0) = true ∧ x14 = false ∧ True → RetB Tryz.prog 63 ⟨[.slice (g_v_.s (v6).toNat 0).a (((gi v_ v6).List_).length) (g_v_.s (v6).toNat 0).c, vU (r04_Closer ((gi v_ v6).Token.Kind))]⟩ (vB y15) wz)] H11 (by subst hx12 hx13 hx14 hx16; kernel_rfl) ⟨fun hg => (hS.im 0 rfl).oki ho9, fun hg => (hS.im 0 rfl).at1 ho9 5 rfl, fun hg => (hS.im 0 rfl).oki ho9, fun hg => (hS.im 0 rfl).at1 ho9 0 rfl, fun hg => (hS.im 0 rfl).oki ho9, fun hg => (hS.im 0 rfl).at1 ho9 5 rfl, fun hg => retB_of (s0im s0nil (tyValue_i0 ((hS.im 0 rfl).el ho9))) (Tryz.call63 _) (fun w' h' => ih ((g_v_.s (v6).toNat 0)) F0 _ _ _ (bT (hg.1) (bF (hg.2.1) hy15)) w' h'), trivial⟩ fun _ _ H18 hb => ?_
    replace hS := hS.below hb
    clear H11 hb
    refine w_if H18 rfl (fun hc => ?_) (fun hc => ?c23)
    case c23 =>
     replace hm := bF hc hm
     apply w_skip
     refine w_reg [] [0, 1, 5] (fS [0, 1, 5] [vL g_v_ v_, vU closer, vI (w64 (v6 + 1))]) [] H18 (by kernel_rfl) trivial fun _ _ H22 hb => ?_
     replace hS := hS.below hb
     clear H18 hb
     exact ⟨_, Nat.lt_succ_self _, w64 (v6 + 1), hm, FrG.keep (ks := [0, 1, 5]) H22 (by kernel_rfl), hS⟩
    replace hm := bT hc hm
    refine s_reg [] [4] [(4, [], vF)] [] H18 (by kernel_rfl) trivial fun _ _ H20 hb => ?_
    replace hS := hS.below hb
    clear H18 hb
    apply w_ret
    obtain rfl := someE hm
    have hm := hm_z3
    obtain rfl := someE hm
    exact retR1 H20 rfl rfl ⟨_, rfl, rfl, (hS.sel [] rfl)⟩
  ·rintro _ _ ⟨s_z3, hz, H, hS⟩
   subst hz
   replace hm := sumR hm_z3
   replace hS : SH M X w [] _ := hS.sel [] rfl
   refine s_reg [] [4] [(4, [], vT)] [] H (by kernel_rfl) trivial fun _ _ H27 hb => ?_
   replace hS := hS.below hb
   clear H hb
   apply w_ret
   obtain rfl := someE hm
   exact retR1 H27 rfl rfl ⟨_, rfl, rfl, (hS.sel [] rfl)⟩
theorem r04_shaped_ok {g_v_ : Gh} (m : Nat) (v_ : List TValue) (closer : Int) (r : Bool) (hm : r04_shaped m v_ closer = some r) (w : World) (hL : S0 F0 [eI tyValue v_ g_v_] w ∧ fpl [eI tyValue v_ g_v_] = []) : RetB Tryz.prog 63 ⟨[vL g_v_ v_, vU closer]⟩ (vB r) w := retB_of hL (Tryz.call63 _) (fun w' h => r04_shaped_w m   m g_v_ F0 v_ closer r hm w' h)

theorem r04_Check_w {g_v_ : Gh} (M : Av) (m : Nat) (v_ : List TValue) (r : Int) (hm : r04_Check m v_ = some r) (w : World) (hS : S0 M [eI tyValue v_ g_v_] w) : Calls Tryz.prog 38 ⟨[vL g_v_ v_]⟩ w (fun e w' => ∃ v, e = .returned v ∧ v = vI r ∧ SH M (fpl [eI tyValue v_ g_v_]) w [] w') := by
 rw [r04_Check] at hm
 have hS0 : SH M (fpl [eI tyValue v_ g_v_]) w [eI tyValue v_ g_v_] w := hS
 generalize hX : fpl [eI tyValue v_ g_v_] = X at hS0 ⊢
 clear hS hX
 have hS := hS0
 clear hS0
 refine calls_entryP Tryz.func38 rfl Tryz.ntmps38 rfl fun _ H => ?_
 refine s_reg [] [0] [(0, [], vL g_v_ v_)] [] H (by kernel_rfl) trivial fun _ _ H2 hb => ?_
 replace hS := hS.below hb
 clear H hb
 apply w_seq
 obtain ⟨y3, hy3, hm⟩ := bindE hm
 refine s_reg [(vI y3)] [0, 5] (fS [0, 5] [vL g_v_ v_, vB (decide (16 < y3))]) [rB 29 [vL g_v_ v_] (vI y3)] H2 (by kernel_rfl) ⟨(r04_Deep_ok (g_v_ := g_v_) m _ _ hy3 _ (s0im s0nil (hS.im 0 rfl))), trivial⟩ fun _ _ H5 hb => ?_
 replace hS := hS.below hb
 clear H2 hb
 refine w_if H5 rfl (fun hc => ?c28) (fun hc => ?_)
 case c28 =>
  replace hm := bT hc hm
  refine s_reg [] [2] [(2, [], vI 20)] [] H5 (by kernel_rfl) trivial fun _ _ H7 hb => ?_
  replace hS := hS.below hb
  clear H5 hb
  replace hS : SH M X w [] _ := hS.sel [] rfl
  apply w_ret
  obtain rfl := someE hm
  exact retR1 H7 rfl rfl ⟨_, rfl, rfl, (hS.sel [] rfl)⟩
 replace hm := bF hc hm
 apply w_skip
 apply w_seq
 apply w_seq
 apply wl_start
 refine wl_batch 0 1 [] [0, 6] (fS [0, 6] [vL g_v_ v_, vL g_v_ v_]) [] H5 (by decide) (by kernel_rfl) trivial fun _ _ H9 hb => ?_
 replace hS := hS.below hb
 clear H5 hb
 obtain ⟨y10, hy10, hm⟩ := bindE hm
 have hd := hS.hand [0] [0] rfl rfl
 refine m_stp [7, 0] [(0, [], vL g_v_ v_)] H9 rfl rfl rfl rfl (o_callx H9 rfl rfl (r04_Tokens_ok (g_v_ := g_v_) m _ _ hy10 _ _ hd)) (fun _ => rfl) fun _ _ v H14 hq => ?_
 clear H9 hd
 obtain ⟨g11, rfl, hq⟩ := hq
 replace hS : SH M X w [eO 49 tyToken y10 g11, eI tyValue v_ g_v_] _ := hS.join [0] [0] rfl rfl hq
 clear hq
 refine wl_batch 2 4 [] [0, 9] (fS [0, 9] [vL g_v_ v_, vB (decide (1500 < (ln y10)))]) [] H14 (by decide) (by kernel_rfl) trivial fun _ _ H16 hb => ?_
 replace hS := hS.below hb
 clear H14 hb
 apply wl_end rfl
 replace hS : SH M X w [eI tyValue v_ g_v_] _ := hS.sel [1] rfl
 refine w_if H16 rfl (fun hc => ?c27) (fun hc => ?_)
 case c27 =>
  replace hm := bT hc hm
  refine s_reg [] [2] [(2, [], vI 4)] [] H16 (by kernel_rfl) trivial fun _ _ H18 hb => ?_
  replace hS := hS.below hb
  clear H16 hb
  replace hS : SH M X w [] _ := hS.sel [] rfl
  apply w_ret
  obtain rfl := someE hm
  exact retR1 H18 rfl rfl ⟨_, rfl, rfl, (hS.sel [] rfl)⟩
 replace hm := bF hc hm
 apply w_skip
 apply w_seq
 obtain ⟨y19, hy19, hm⟩ := bindE hm
 refine s_reg [(vB y19)] [12] [(12, [], vB (!y19))] [rB 63 [vL g_v_ v_, vU 0] (vB y19)] H16 (by kernel_rfl) ⟨(r04_shaped_ok (g_v_ := g_v_) m _ _ _ hy19 _ (s0im s0nil (hS.im 0 rfl))), trivial⟩ fun _ _ H21 hb => ?_
 replace hS := hS.below hb
 clear H16 hb
 replace hS : SH M X w [] _ := hS.sel [] rfl
 refine w_if H21 rfl (fun hc => ?c26) (fun hc => ?_)
 case c26 =>
  replace hm := bT hc hm
  refine s_reg [] [2] [(2, [], vI 8)] [] H21 (by kernel_rfl) trivial fun _ _ H23 hb => ?_
  replace hS := hS.below hb
  clear H21 hb
  apply w_ret
  obtain rfl := someE hm
  exact retR1 H23 rfl rfl ⟨_, rfl, rfl, (hS.sel [] rfl)⟩
 replace hm := bF hc hm
 apply w_skip
 refine s_reg [] [2] [(2, [], vI 0)] [] H21 (by kernel_rfl) trivial fun _ _ H25 hb => ?_
 replace hS := hS.below hb
 clear H21 hb
 apply w_ret
 obtain rfl := someE hm
 exact retR1 H25 rfl rfl ⟨_, rfl, rfl, (hS.sel [] rfl)⟩
theorem r04_Check_ok {g_v_ : Gh} (m : Nat) (v_ : List TValue) (r : Int) (hm : r04_Check m v_ = some r) (w : World) (hL : S0 F0 [eI tyValue v_ g_v_] w ∧ fpl [eI tyValue v_ g_v_] = []) : RetB Tryz.prog 38 ⟨[vL g_v_ v_]⟩ (vI r) w := retB_of hL (Tryz.call38 _) (fun w' h => r04_Check_w F0 m   v_ r hm w' h)

theorem r27_parts_w {g_l_ : Gh} (M : Av) (m : Nat) (l_ : List TValue) (r : List (List TValue)) (hm : r27_parts m l_ = some r) (w : World) (hS : S0 M [eI tyValue l_ g_l_] w) : Calls Tryz.prog 64 ⟨[vL g_l_ l_]⟩ w (fun e w' => ∃ v, e = .returned v ∧ ∃ (g901 : Gh), v = vL g901 r ∧ SH M (fpl [eI tyValue l_ g_l_]) w [eO 22 (Ty.sl tyValue) r g901] w') := by
 rw [r27_parts] at hm
 have hS0 : SH M (fpl [eI tyValue l_ g_l_]) w [eI tyValue l_ g_l_] w := hS
 generalize hX : fpl [eI tyValue l_ g_l_] = X at hS0 ⊢
 clear hS hX
 have hS := hS0
 clear hS0
 refine calls_entryP Tryz.func64 rfl Tryz.ntmps64 rfl fun _ H => ?_
 refine s_reg [] [0] [(0, [], vL g_l_ l_)] [] H (by kernel_rfl) trivial fun _ _ H2 hb => ?_
 replace hS := hS.below hb
 clear H hb
 refine s_reg [] [0, 3] (fS [0, 3] [vL g_l_ l_, vO]) [] H2 (by kernel_rfl) trivial fun _ _ H4 hb => ?_
 replace hS := hS.below hb
 clear H2 hb
 refine s_reg [] [0, 3, 4] (fS [0, 3, 4] [vL g_l_ l_, vO, vT]) [] H4 (by kernel_rfl) trivial fun _ _ H6 hb => ?_
 replace hS := hS.below hb
 clear H4 hb
 obtain ⟨z7, hz, hm_z7⟩ := bindE hm
 refine w_cut (fun a' w' => ∃ s_z7 : (List (List TValue)) × Bool, z7 = Sum.inr s_z7 ∧ ∃ (g59 : Gh), Fr 78 (fS [3, 4] [vL g59 s_z7.1, vB s_z7.2]) a' ∧ SH M X w [eO 22 (Ty.sl tyValue) s_z7.1 g59, eI tyValue l_ g_l_] w') ?_ ?_
 ·replace hm := hz
  refine s_reg [] [0, 3, 4, 5] (fS [0, 3, 4, 5] [vL g_l_ l_, vO, vT, vI 0]) [] H6 (by kernel_rfl) trivial fun _ _ H9 hb => ?_
  replace hS := hS.below hb
  clear H6 hb
  apply w_block
  replace hS : SH M X w [eO 22 (Ty.sl tyValue) ([] : List (List TValue)) (.nil), eI tyValue l_ g_l_] _ := hS.addNil 22 (Ty.sl tyValue)
  refine w_loop (fun kk a' w' => ∃ (v11 : List (List TValue)) (v13 : Bool) (v14 : Int) (g12 : Gh), r27_parts_L1 m l_ kk v11 v13 v14 = some _ ∧ Fr 78 (fS [0, 3, 4, 5] [vL g_l_ l_, vL g12 v11, vB v13, vI v14]) a' ∧ SH M X w [eO 22 (Ty.sl tyValue) v11 g12, eI tyValue l_ g_l_] w') ⟨_, ([] : List (List TValue)), true, 0, Gh.nil, hm, FrG.keep (ks := [0, 3, 4, 5]) H9 (by kernel_rfl), hS⟩ ?_
  clear hm H9 hS
  rintro kk _ _ ⟨v11, v13, v14, g12, hm, H, hS⟩
  cases kk with
  | zero => exact noneE hm
  | succ kk =>
   rw [r27_parts_L1] at hm
   apply w_seq
   refine s_reg [] [0, 3, 4, 5, 10] (fS [0, 3, 4, 5, 10] [vL g_l_ l_, vL g12 v11, vB v13, vI v14, vB (decide (v14 < (ln l_)))]) [] H (by kernel_rfl) trivial fun _ _ H16 hb => ?_
   replace hS := hS.below hb
   clear H hb
   refine w_if H16 rfl (fun hc => ?_) (fun hc => ?c57)
   case c57 =>
    replace hm := bF hc hm
    apply w_exit rfl
    obtain rfl := someE hm
    exact ⟨_, rfl, g12, FrG.keep (ks := [3, 4]) H16 (by kernel_rfl), hS⟩
   replace hm := bT hc hm
   apply w_skip
   apply w_seq
   apply w_block
   obtain ⟨ho17, hm⟩ := chkE hm
   refine s_reg [(vU ((gi l_ v14).Token.Kind))] [0, 3, 4, 5, 6] (fS [0, 3, 4, 5, 6] [vL g_l_ l_, vL g12 v11, vB v13, vI v14, vB (((gi l_ v14).Token.Kind) == 13)]) [fun _ => oka g_l_.a ∧ 0 ≤ v14 ∧ v14 < ln l_, fun wz => V.at1 ⟨ab g_l_.a, ao g_l_.a + (v14).toNat * 6, none⟩ (vU ((gi l_ v14).Token.Kind)) wz] H16 (by kernel_rfl) ⟨((hS.im 1 rfl).oki ho17), ((hS.im 1 rfl).at1 ho17 0 rfl), trivial⟩ fun _ _ H19 hb => ?_
   replace hS := hS.below hb
   clear H16 hb
   apply w_seq
   obtain ⟨x20, hx20, hm⟩ := letE hm
   obtain ⟨x21, hx21, hm⟩ := letE hm
   refine s_reg [] [0, 3, 5, 6, 32] (fS [0, 3, 5, 6, 32] [vL g_l_ l_, vL g12 v11, vI v14, vB (((gi l_ v14).Token.Kind) == 13), vB x21]) [] H19 (by subst hx20 hx21; kernel_rfl) trivial fun _ _ H23 hb => ?_
   replace hS := hS.below hb
   clear H19 hb
   refine w_if H23 rfl (fun hc => ?c56) (fun hc => ?_)
   case c56 =>
    replace hm := bT hc hm
    refine s_reg [] [2] [(2, [], vO)] [] H23 (by kernel_rfl) trivial fun _ _ H25 hb => ?_
    replace hS := hS.below hb
    clear H23 hb
    apply w_ret
    obtain rfl := someE hm
    have hm := hm_z7
    obtain rfl := someE hm
    replace hS : SH M X w [eO 22 (Ty.sl tyValue) ([] : List (List TValue)) (.nil), eO 22 (Ty.sl tyValue) v11 g12, eI tyValue l_ g_l_] _ := hS.addNil 22 (Ty.sl tyValue)
    exact retR1 H25 rfl rfl ⟨_, rfl, Gh.nil, rfl, (hS.sel [0] rfl)⟩
   replace hm := bF hc hm
   apply w_skip
   obtain ⟨z27, hz, hm⟩ := bindE hm
   refine w_cut (fun a' w' => ∃ (g50 : Gh), Fr 78 (fS [0, 5, 6, 3] [vL g_l_ l_, vI v14, vB (((gi l_ v14).Token.Kind) == 13), vL g50 z27]) a' ∧ SH M X w [eO 22 (Ty.sl tyValue) z27 g50, eI tyValue l_ g_l_] w') ?_ ?_
   ·replace hm := hz
    refine s_reg [] [0, 3, 5, 6, 34] (fS [0, 3, 5, 6, 34] [vL g_l_ l_, vL g12 v11, vI v14, vB (((gi l_ v14).Token.Kind) == 13), vB (!(((gi l_ v14).Token.Kind) == 13))]) [] H23 (by kernel_rfl) trivial fun _ _ H29 hb => ?_
    replace hS := hS.below hb
    clear H23 hb
    refine w_if H29 rfl (fun hc => ?_) (fun hc => ?c49)
    case c49 =>
     replace hm := bF hc hm
     apply w_skip
     obtain rfl := someE hm
     exact ⟨g12, FrG.keep (ks := [0, 5, 6, 3]) H29 (by kernel_rfl), hS⟩
    replace hm := bT hc hm
    apply wl_start
    refine wl_batch 0 5 [] [0, 5, 6, 35, 36, 37, 39] (fS [0, 5, 6, 35, 36, 37, 39] [vL g_l_ l_, vI v14, vB (((gi l_ v14).Token.Kind) == 13), vL g12 v11, vL g_l_ l_, vI v14, vI (w64 (v14 + 1))]) [] H29 (by decide) (by kernel_rfl) trivial fun _ _ H31 hb => ?_
    replace hS := hS.below hb
    clear H29 hb
    obtain ⟨ho32, hm⟩ := chkE hm
    obtain ⟨q33, hq33, hm⟩ := letE hm
    have hd := hS.hand [1] [0, 1] rfl rfl
    refine m_stp [40, 0, 5, 6, 35] (fS [0, 5, 6, 35] [vL g_l_ l_, vI v14, vB (((gi l_ v14).Token.Kind) == 13), vL g12 v11]) H31 rfl rfl rfl rfl (o_sub (T := tyValue) (E := 51) (g := g_l_) (q := l_) v14 (w64 (v14 + 1)) (.some (vI v14)) (.some (vI (w64 (v14 + 1)))) H31 hd (hd.im 0 rfl) rfl rfl rfl rfl rfl rfl (.inr ⟨_, rfl⟩) (.inr ⟨_, rfl⟩) (by kernel_rfl) (by kernel_rfl) ho32) (fun _ => rfl) fun _ _ v H35 hq => ?_
    clear H31 hd
    obtain ⟨g36, rfl, hq⟩ := hq
    rw [← hq33] at hq
    rw [← hq33] at H35
    replace hS : SH M X w [eI tyValue q33 g36, eI tyValue l_ g_l_, eO 22 (Ty.sl tyValue) v11 g12, eI tyValue l_ g_l_] _ := hS.join [1] [0, 1] rfl rfl hq
    clear hq
    have hd := hS.hand [0] [0, 1, 2, 3] rfl rfl
    refine m_stp [41, 0, 5, 6, 35] (fS [0, 5, 6, 35] [vL g_l_ l_, vI v14, vB (((gi l_ v14).Token.Kind) == 13), vL g12 v11]) H35 rfl rfl rfl rfl (o_lit (T := (Ty.sl tyValue)) (E := 22) (zv := vO) [vL g36 q33] ([q33] : List (List TValue)) [gL [g36]] _ H35 hd rfl (by kernel_rfl) (by kernel_rfl) (by kernel_rfl) (by kernel_rfl) (by kernel_rfl) (by kernel_rfl) (by kernel_rfl) rfl (InnL.cons (hd.im 0 rfl) InnL.nil)) (fun _ => rfl) fun _ _ v H41 hq => ?_
    clear H35 hd
    obtain ⟨g38, rfl, hq⟩ := hq
    replace hS : SH M X w [eO 22 (Ty.sl tyValue) ([q33] : List (List TValue)) g38, eI tyValue q33 g36, eI tyValue l_ g_l_, eO 22 (Ty.sl tyValue) v11 g12, eI tyValue l_ g_l_] _ := hS.join [0] [0, 1, 2, 3] rfl rfl hq
    clear hq
    obtain ⟨ho42, hm⟩ := chkE hm
    obtain ⟨q43, hq43, hm⟩ := letE hm
    have hd := hS.hand [3, 0] [1, 2, 4] rfl rfl
    refine m_stp [42, 0, 5, 6] (fS [0, 5, 6] [vL g_l_ l_, vI v14, vB (((gi l_ v14).Token.Kind) == 13)]) H41 rfl rfl rfl rfl (o_app2 (T := (Ty.sl tyValue)) (zv := vO) (g1 := g12) (g2 := g38) (l1 := v11) (l2 := ([q33] : List (List TValue))) q43 hq43.symm H41 hd rfl rfl rfl rfl rfl rfl rfl (by kernel_rfl) (by kernel_rfl) rfl rfl ho42) (fun _ => rfl) fun _ _ v H45 hq => ?_
    clear H41 hd
    obtain ⟨g46, rfl, hq⟩ := hq
    replace hS : SH M X w [eO 22 (Ty.sl tyValue) q43 g46, eO 22 (Ty.sl tyValue) ([q33] : List (List TValue)) g38, eI tyValue q33 g36, eI tyValue l_ g_l_, eI tyValue l_ g_l_] _ := hS.join [3, 0] [1, 2, 4] rfl rfl hq
    clear hq
    refine wl_batch 8 9 [] [0, 3, 5, 6] (fS [0, 3, 5, 6] [vL g_l_ l_, vL g46 q43, vI v14, vB (((gi l_ v14).Token.Kind) == 13)]) [] H45 (by decide) (by kernel_rfl) trivial fun _ _ H48 hb => ?_
    replace hS := hS.below hb
    clear H45 hb
    apply wl_end rfl
    replace hS : SH M X w [eO 22 (Ty.sl tyValue) q43 g46, eI tyValue l_ g_l_] _ := hS.sel [0, 3] rfl
    obtain rfl := someE hm
    exact ⟨g46, FrG.keep (ks := [0, 5, 6, 3]) H48 (by kernel_rfl), hS⟩
   ·rintro _ _ ⟨g50, H, hS⟩
    refine w_reg [] [0, 3, 4, 5] (fS [0, 3, 4, 5] [vL g_l_ l_, vL g50 z27, vB (((gi l_ v14).Token.Kind) == 13), vI v14]) [] H (by kernel_rfl) trivial fun _ _ H52 hb => ?_
    replace hS := hS.below hb
    clear H hb
    refine w_reg [] [0, 3, 4, 5] (fS [0, 3, 4, 5] [vL g_l_ l_, vL g50 z27, vB (((gi l_ v14).Token.Kind) == 13), vI (w64 (v14 + 1))]) [] H52 (by kernel_rfl) trivial fun _ _ H54 hb => ?_
    replace hS := hS.below hb
    clear H52 hb
    exact ⟨_, Nat.lt_succ_self _, z27, ((gi l_ v14).Token.Kind) == 13, w64 (v14 + 1), g50, hm, FrG.keep (ks := [0, 3, 4, 5]) H54 (by kernel_rfl), hS⟩
 ·rintro _ _ ⟨s_z7, hz, g59, H, hS⟩
  subst hz
  replace hm := sumR hm_z7
  replace hS : SH M X w [eO 22 (Ty.sl tyValue) s_z7.1 g59] _ := hS.sel [0] rfl
  apply w_seq
  obtain ⟨x61, hx61, hm⟩ := letE hm
  refine s_reg [] [3, 49] (fS [3, 49] [vL g59 s_z7.1, vB x61]) [] H (by subst hx61; kernel_rfl) trivial fun _ _ H63 hb => ?_
  replace hS := hS.below hb
  clear H hb
  refine w_if H63 rfl (fun hc => ?c132) (fun hc => ?_)
  case c132 =>
   replace hm := bT hc hm
   refine s_reg [] [2] [(2, [], vO)] [] H63 (by kernel_rfl) trivial fun _ _ H65 hb => ?_
   replace hS := hS.below hb
   clear H63 hb
   replace hS : SH M X w [] _ := hS.sel [] rfl
   apply w_ret
   obtain rfl := someE hm
   replace hS : SH M X w [eO 22 (Ty.sl tyValue) ([] : List (List TValue)) (.nil)] _ := hS.addNil 22 (Ty.sl tyValue)
   exact retR1 H65 rfl rfl ⟨_, rfl, Gh.nil, rfl, (hS.sel [0] rfl)⟩
  replace hm := bF hc hm
  apply w_skip
  obtain ⟨z67, hz, hm⟩ := bindE hm
  refine w_cut (fun a' w' => ∃ (g86 : Gh), Fr 78 [(3, [], vL g86 z67)] a' ∧ SH M X w [eO 22 (Ty.sl tyValue) z67 g86] w') ?_ ?_
  ·replace hm := hz
   refine s_reg [] [3, 52] (fS [3, 52] [vL g59 s_z7.1, vB (decide ((ln s_z7.1) < 2))]) [] H63 (by kernel_rfl) trivial fun _ _ H69 hb => ?_
   replace hS := hS.below hb
   clear H63 hb
   refine w_if H69 rfl (fun hc => ?_) (fun hc => ?c85)
   case c85 =>
    replace hm := bF hc hm
    apply w_skip
    obtain rfl := someE hm
    exact ⟨g59, FrG.keep (ks := [3]) H69 (by kernel_rfl), hS⟩
   replace hm := bT hc hm
   apply wl_start
   obtain ⟨ho70, hm⟩ := chkE hm
   refine wl_batch 0 4 [(.slice (g59.s ((0 : Int)).toNat 0).a ((gi s_z7.1 (0 : Int)).length) (g59.s ((0 : Int)).toNat 0).c)] [53, 56] (fS [53, 56] [vL g59 s_z7.1, .slice (g59.s ((0 : Int)).toNat 0).a ((gi s_z7.1 (0 : Int)).length) (g59.s ((0 : Int)).toNat 0).c]) [fun _ => oka g59.a ∧ 0 ≤ (0 : Int) ∧ (0 : Int) < ln s_z7.1, fun wz => V.at1 ⟨ab g59.a, ao g59.a + ((0 : Int)).toNat * 1, none⟩ (.slice (g59.s ((0 : Int)).toNat 0).a ((gi s_z7.1 (0 : Int)).length) (g59.s ((0 : Int)).toNat 0).c) wz] H69 (by decide) (by kernel_rfl) ⟨((hS.osl 0 rfl).oki ho70), ((hS.osl 0 rfl).at1 ho70 0 rfl), trivial⟩ fun _ _ H72 hb => ?_
   replace hS := hS.below hb
   clear H69 hb
   replace hS : SH M X w [eI tyValue (gi s_z7.1 (0 : Int)) (g59.s ((0 : Int)).toNat 0), eO 22 (Ty.sl tyValue) s_z7.1 g59] _ := hS.addIm (sl_inn ((hS.ow 0 rfl).el ho70))
   have hd := hS.hand [0] [0, 1] rfl rfl
   refine m_stp [57, 53] [(53, [], vL g59 s_z7.1)] H72 rfl rfl rfl rfl (o_lit (T := (Ty.sl tyValue)) (E := 22) (zv := vO) [.slice (g59.s ((0 : Int)).toNat 0).a ((gi s_z7.1 (0 : Int)).length) (g59.s ((0 : Int)).toNat 0).c] ([(gi s_z7.1 (0 : Int))] : List (List TValue)) [gL [(g59.s ((0 : Int)).toNat 0)]] _ H72 hd rfl (by kernel_rfl) (by kernel_rfl) (by kernel_rfl) (by kernel_rfl) (by kernel_rfl) (by kernel_rfl) (by kernel_rfl) rfl (InnL.cons (hd.im 0 rfl) InnL.nil)) (fun _ => rfl) fun _ _ v H77 hq => ?_
   clear H72 hd
   obtain ⟨g73, rfl, hq⟩ := hq
   replace hS : SH M X w [eO 22 (Ty.sl tyValue) ([(gi s_z7.1 (0 : Int))] : List (List TValue)) g73, eI tyValue (gi s_z7.1 (0 : Int)) (g59.s ((0 : Int)).toNat 0), eO 22 (Ty.sl tyValue) s_z7.1 g59] _ := hS.join [0] [0, 1] rfl rfl hq
   clear hq
   obtain ⟨ho78, hm⟩ := chkE hm
   obtain ⟨q79, hq79, hm⟩ := letE hm
   have hd := hS.hand [2, 0] [1] rfl rfl
   refine m_stp [58] [] H77 rfl rfl rfl rfl (o_app2 (T := (Ty.sl tyValue)) (zv := vO) (g1 := g59) (g2 := g73) (l1 := s_z7.1) (l2 := ([(gi s_z7.1 (0 : Int))] : List (List TValue))) q79 hq79.symm H77 hd rfl rfl rfl rfl rfl rfl rfl (by kernel_rfl) (by kernel_rfl) rfl rfl ho78) (fun _ => rfl) fun _ _ v H81 hq => ?_
   clear H77 hd
   obtain ⟨g82, rfl, hq⟩ := hq
   replace hS : SH M X w [eO 22 (Ty.sl tyValue) q79 g82, eO 22 (Ty.sl tyValue) ([(gi s_z7.1 (0 : Int))] : List (List TValue)) g73, eI tyValue (gi s_z7.1 (0 : Int)) (g59.s ((0 : Int)).toNat 0)] _ := hS.join [2, 0] [1] rfl rfl hq
   clear hq
   refine wl_batch 6 7 [] [3] [(3, [], vL g82 q79)] [] H81 (by decide) (by kernel_rfl) trivial fun _ _ H84 hb => ?_
   replace hS := hS.below hb
   clear H81 hb
   apply wl_end rfl
   replace hS : SH M X w [eO 22 (Ty.sl tyValue) q79 g82] _ := hS.sel [0] rfl
   obtain rfl := someE hm
   exact ⟨g82, FrG.keep (ks := [3]) H84 (by kernel_rfl), hS⟩
  ·rintro _ _ ⟨g86, H, hS⟩
   obtain ⟨z87, hz, hm⟩ := bindE hm
   refine w_cut (fun a' w' => ∃ (g106 : Gh), Fr 78 [(3, [], vL g106 z87)] a' ∧ SH M X w [eO 22 (Ty.sl tyValue) z87 g106] w') ?_ ?_
   ·replace hm := hz
    refine s_reg [] [3, 61] (fS [3, 61] [vL g86 z67, vB (decide ((ln z67) < 3))]) [] H (by kernel_rfl) trivial fun _ _ H89 hb => ?_
    replace hS := hS.below hb
    clear H hb
    refine w_if H89 rfl (fun hc => ?_) (fun hc => ?c105)
    case c105 =>
     replace hm := bF hc hm
     apply w_skip
     obtain rfl := someE hm
     exact ⟨g86, FrG.keep (ks := [3]) H89 (by kernel_rfl), hS⟩
    replace hm := bT hc hm
    apply wl_start
    obtain ⟨ho90, hm⟩ := chkE hm
    refine wl_batch 0 4 [(.slice (g86.s ((0 : Int)).toNat 0).a ((gi z67 (0 : Int)).length) (g86.s ((0 : Int)).toNat 0).c)] [62, 65] (fS [62, 65] [vL g86 z67, .slice (g86.s ((0 : Int)).toNat 0).a ((gi z67 (0 : Int)).length) (g86.s ((0 : Int)).toNat 0).c]) [fun _ => oka g86.a ∧ 0 ≤ (0 : Int) ∧ (0 : Int) < ln z67, fun wz => V.at1 ⟨ab g86.a, ao g86.a + ((0 : Int)).toNat * 1, none⟩ (.slice (g86.s ((0 : Int)).toNat 0).a ((gi z67 (0 : Int)).length) (g86.s ((0 : Int)).toNat 0).c) wz] H89 (by decide) (by kernel_rfl) ⟨((hS.osl 0 rfl).oki ho90), ((hS.osl 0 rfl).at1 ho90 0 rfl), trivial⟩ fun _ _ H92 hb => ?_
    replace hS := hS.below hb
    clear H89 hb
    replace hS : SH M X w [eI tyValue (gi z67 (0 : Int)) (g86.s ((0 : Int)).toNat 0), eO 22 (Ty.sl tyValue) z67 g86] _ := hS.addIm (sl_inn ((hS.ow 0 rfl).el ho90))
    have hd := hS.hand [0] [0, 1] rfl rfl
    refine m_stp [66, 62] [(62, [], vL g86 z67)] H92 rfl rfl rfl rfl (o_lit (T := (Ty.sl tyValue)) (E := 22) (zv := vO) [.slice (g86.s ((0 : Int)).toNat 0).a ((gi z67 (0 : Int)).length) (g86.s ((0 : Int)).toNat 0).c] ([(gi z67 (0 : Int))] : List (List TValue)) [gL [(g86.s ((0 : Int)).toNat 0)]] _ H92 hd rfl (by kernel_rfl) (by kernel_rfl) (by kernel_rfl) (by kernel_rfl) (by kernel_rfl) (by kernel_rfl) (by kernel_rfl) rfl (InnL.cons (hd.im 0 rfl) InnL.nil)) (fun _ => rfl) fun _ _ v H97 hq => ?_
    clear H92 hd
    obtain ⟨g93, rfl, hq⟩ := hq
    replace hS : SH M X w [eO 22 (Ty.sl tyValue) ([(gi z67 (0 : Int))] : List (List TValue)) g93, eI tyValue (gi z67 (0 : Int)) (g86.s ((0 : Int)).toNat 0), eO 22 (Ty.sl tyValue) z67 g86] _ := hS.join [0] [0, 1] rfl rfl hq
    clear hq
    obtain ⟨ho98, hm⟩ := chkE hm
    obtain ⟨q99, hq99, hm⟩ := letE hm
    have hd := hS.hand [2, 0] [1] rfl rfl
    refine m_stp [67] [] H97 rfl rfl rfl rfl (o_app2 (T := (Ty.sl tyValue)) (zv := vO) (g1 := g86) (g2 := g93) (l1 := z67) (l2 := ([(gi z67 (0 : Int))] : List (List TValue))) q99 hq99.symm H97 hd rfl rfl rfl rfl rfl rfl rfl (by kernel_rfl) (by kernel_rfl) rfl rfl ho98) (fun _ => rfl) fun _ _ v H101 hq => ?_
    clear H97 hd
    obtain ⟨g102, rfl, hq⟩ := hq
    replace hS : SH M X w [eO 22 (Ty.sl tyValue) q99 g102, eO 22 (Ty.sl tyValue) ([(gi z67 (0 : Int))] : List (List TValue)) g93, eI tyValue (gi z67 (0 : Int)) (g86.s ((0 : Int)).toNat 0)] _ := hS.join [2, 0] [1] rfl rfl hq
    clear hq
    refine wl_batch 6 7 [] [3] [(3, [], vL g102 q99)] [] H101 (by decide) (by kernel_rfl) trivial fun _ _ H104 hb => ?_
    replace hS := hS.below hb
    clear H101 hb
    apply wl_end rfl
    replace hS : SH M X w [eO 22 (Ty.sl tyValue) q99 g102] _ := hS.sel [0] rfl
    obtain rfl := someE hm
    exact ⟨g102, FrG.keep (ks := [3]) H104 (by kernel_rfl), hS⟩
   ·rintro _ _ ⟨g106, H, hS⟩
    obtain ⟨z107, hz, hm⟩ := bindE hm
    refine w_cut (fun a' w' => ∃ (g126 : Gh), Fr 78 [(3, [], vL g126 z107)] a' ∧ SH M X w [eO 22 (Ty.sl tyValue) z107 g126] w') ?_ ?_
    ·replace hm := hz
     refine s_reg [] [3, 70] (fS [3, 70] [vL g106 z87, vB (decide ((ln z87) < 4))]) [] H (by kernel_rfl) trivial fun _ _ H109 hb => ?_
     replace hS := hS.below hb
     clear H hb
     refine w_if H109 rfl (fun hc => ?_) (fun hc => ?c125)
     case c125 =>
      replace hm := bF hc hm
      apply w_skip
      obtain rfl := someE hm
      exact ⟨g106, FrG.keep (ks := [3]) H109 (by kernel_rfl), hS⟩
     replace hm := bT hc hm
     apply wl_start
     obtain ⟨ho110, hm⟩ := chkE hm
     refine wl_batch 0 4 [(.slice (g106.s ((1 : Int)).toNat 0).a ((gi z87 (1 : Int)).length) (g106.s ((1 : Int)).toNat 0).c)] [71, 74] (fS [71, 74] [vL g106 z87, .slice (g106.s ((1 : Int)).toNat 0).a ((gi z87 (1 : Int)).length) (g106.s ((1 : Int)).toNat 0).c]) [fun _ => oka g106.a ∧ 0 ≤ (1 : Int) ∧ (1 : Int) < ln z87, fun wz => V.at1 ⟨ab g106.a, ao g106.a + ((1 : Int)).toNat * 1, none⟩ (.slice (g106.s ((1 : Int)).toNat 0).a ((gi z87 (1 : Int)).length) (g106.s ((1 : Int)).toNat 0).c) wz] H109 (by decide) (by kernel_rfl) ⟨((hS.osl 0 rfl).oki ho110), ((hS.osl 0 rfl).at1 ho110 0 rfl), trivial⟩ fun _ _ H112 hb => ?_
     replace hS := hS.below hb
     clear H109 hb
     replace hS : SH M X w [eI tyValue (gi z87 (1 : Int)) (g106.s ((1 : Int)).toNat 0), eO 22 (Ty.sl tyValue) z87 g106] _ := hS.addIm (sl_inn ((hS.ow 0 rfl).el ho110))
     have hd := hS.hand [0] [0, 1] rfl rfl
     refine m_stp [75, 71] [(71, [], vL g106 z87)] H112 rfl rfl rfl rfl (o_lit (T := (Ty.sl tyValue)) (E := 22) (zv := vO) [.slice (g106.s ((1 : Int)).toNat 0).a ((gi z87 (1 : Int)).length) (g106.s ((1 : Int)).toNat 0).c] ([(gi z87 (1 : Int))] : List (List TValue)) [gL [(g106.s ((1 : Int)).toNat 0)]] _ H112 hd rfl (by kernel_rfl) (by kernel_rfl) (by kernel_rfl) (by kernel_rfl) (by kernel_rfl) (by kernel_rfl) (by kernel_rfl) rfl (InnL.cons (hd.im 0 rfl) InnL.nil)) (fun _ => rfl) fun _ _ v H117 hq => ?_
     clear H112 hd
     obtain ⟨g113, rfl, hq⟩ := hq
     replace hS : SH M X w [eO 22 (Ty.sl tyValue) ([(gi z87 (1 : Int))] : List (List TValue)) g113, eI tyValue (gi z87 (1 : Int)) (g106.s ((1 : Int)).toNat 0), eO 22 (Ty.sl tyValue) z87 g106] _ := hS.join [0] [0, 1] rfl rfl hq
     clear hq
     obtain ⟨ho118, hm⟩ := chkE hm
     obtain ⟨q119, hq119, hm⟩ := letE hm
     have hd := hS.hand [2, 0] [1] rfl rfl
     refine m_stp [76] [] H117 rfl rfl rfl rfl (o_app2 (T := (Ty.sl tyValue)) (zv := vO) (g1 := g106) (g2 := g113) (l1 := z87) (l2 := ([(gi z87 (1 : Int))] : List (List TValue))) q119 hq119.symm H117 hd rfl rfl rfl rfl rfl rfl rfl (by kernel_rfl) (by kernel_rfl) rfl rfl ho118) (fun _ => rfl) fun _ _ v H121 hq => ?_
     clear H117 hd
     obtain ⟨g122, rfl, hq⟩ := hq
     replace hS : SH M X w [eO 22 (Ty.sl tyValue) q119 g122, eO 22 (Ty.sl tyValue) ([(gi z87 (1 : Int))] : List (List TValue)) g113, eI tyValue (gi z87 (1 : Int)) (g106.s ((1 : Int)).toNat 0)] _ := hS.join [2, 0] [1] rfl rfl hq
     clear hq
     refine wl_batch 6 7 [] [3] [(3, [], vL g122 q119)] [] H121 (by decide) (by kernel_rfl) trivial fun _ _ H124 hb => ?_
     replace hS := hS.below hb
     clear H121 hb
     apply wl_end rfl
     replace hS : SH M X w [eO 22 (Ty.sl tyValue) q119 g122] _ := hS.sel [0] rfl
     obtain rfl := someE hm
     exact ⟨g122, FrG.keep (ks := [3]) H124 (by kernel_rfl), hS⟩
    ·rintro _ _ ⟨g126, H, hS⟩
     refine s_reg [] [2] [(2, [], vL g126 z107)] [] H (by kernel_rfl) trivial fun _ _ H128 hb => ?_
     replace hS := hS.below hb
     clear H hb
     apply w_ret
     obtain rfl := someE hm
     exact retR1 H128 rfl rfl ⟨_, rfl, g126, rfl, (hS.sel [0] rfl)⟩
theorem r27_parts_ok {g_l_ : Gh} (m : Nat) (l_ : List TValue) (r : List (List TValue)) (hm : r27_parts m l_ = some r) (M : Av) (w : World) (hS : S0 M [eI tyValue l_ g_l_] w) : DoesX Tryz.prog 64 ⟨[vL g_l_ l_]⟩ w (fun v w' => ∃ (g901 : Gh), v = vL g901 r ∧ SH M (fpl [eI tyValue l_ g_l_]) w [eO 22 (Ty.sl tyValue) r g901] w') := ⟨Tryz.call64 _, r27_parts_w M m   l_ r hm w hS⟩

theorem r25_Check_w  (M : Av) (v_ : TVal) (r : Int) (hm : r25_Check v_ = some r) (w : World) (hS : S0 M [] w) : Calls Tryz.prog 115 ⟨[vG (cV v_)]⟩ w (fun e w' => ∃ v, e = .returned v ∧ v = vI r ∧ SH M (fpl []) w [] w') := by
 rw [r25_Check] at hm
 have hS0 : SH M (fpl []) w [] w := hS
 generalize hX : fpl [] = X at hS0 ⊢
 clear hS hX
 have hS := hS0
 clear hS0
 refine calls_entryP Tryz.func115 rfl Tryz.ntmps115 rfl fun _ H => ?_
 apply w_seq
 apply wl_start
 have hd := hS.hand [] [] rfl rfl
 refine m_stp [1] [] H rfl rfl rfl rfl (o_box (cV v_) H hd rfl rfl) (fun _ => rfl) fun _ _ v H3 hq => ?_
 clear H hd
 obtain ⟨b1, rfl, hq⟩ := hq
 replace hS : SH M X w [eB b1 (cV v_)] _ := hS.join [] [] rfl rfl hq
 clear hq
 refine wl_batch 1 2 [] [1] [(1, [], vP b1)] [] H3 (by decide) (by kernel_rfl) trivial fun _ _ H5 hb => ?_
 replace hS := hS.below hb
 clear H3 hb
 apply wl_end rfl
 apply w_seq
 apply wl_start
 refine wl_batch 0 3 [(vU v_.Kind)] [1, 7] (fS [1, 7] [vP b1, vG [vU v_.Kind, vN, vI 0, vU 0, vU 0, vU 0, vU 0]]) [rA b1 0 (vU v_.Kind)] H5 (by decide) (by kernel_rfl) ⟨((hS.bk 0 rfl).at1 rfl), trivial⟩ fun _ _ H7 hb => ?_
 replace hS := hS.below hb
 clear H5 hb
 have hd := hS.hand [] [0] rfl rfl
 refine m_stp [3, 1, 7] (fS [1, 7] [vP b1, vG [vU v_.Kind, vN, vI 0, vU 0, vU 0, vU 0, vU 0]]) H7 rfl rfl rfl rfl (o_alloc [vU 0, vN, vI 0, vU 0, vU 0, vU 0, vU 0] (z := vG [vU 0, vN, vI 0, vU 0, vU 0, vU 0, vU 0]) hd (by kernel_rfl) rfl) (fun _ => rfl) fun _ _ v H10 hq => ?_
 clear H7 hd
 obtain ⟨b8, rfl, hq⟩ := hq
 replace hS : SH M X w [eB b8 [vU 0, vN, vI 0, vU 0, vU 0, vU 0, vU 0], eB b1 (cV v_)] _ := hS.join [] [0] rfl rfl hq
 clear hq
 have hd := hS.hand [0] [1] rfl rfl
 refine m_stp0 [1, 3] (fS [1, 3] [vP b1, vP b8]) H10 rfl rfl rfl (o_store [vU v_.Kind, vN, vI 0, vU 0, vU 0, vU 0, vU 0] H10 hd rfl rfl (by kernel_rfl) rfl rfl rfl) rfl fun _ _ H12 hq => ?_
 clear H10 hd
 obtain ⟨_, hq⟩ := hq
 replace hS : SH M X w [eB b8 [vU v_.Kind, vN, vI 0, vU 0, vU 0, vU 0, vU 0], eB b1 (cV v_)] _ := hS.join [0] [1] rfl rfl hq
 clear hq
 apply wl_end rfl
 refine s_reg [] [1, 3, 4] (fS [1, 3, 4] [vP b1, vP b8, vI 1000000000000]) [] H12 (by kernel_rfl) trivial fun _ _ H14 hb => ?_
 replace hS := hS.below hb
 clear H12 hb
 obtain ⟨z15, hz, hm_z15⟩ := bindE hm
 refine w_cut (fun a' w' => ∃ s_z15 : Int × Str × Int × Int × Int × Int × Int, z15 = Sum.inr s_z15 ∧ Fr 54 (fS [1, 3, 4] [vP b1, vP b8, vI s_z15.1]) a' ∧ SH M X w [eB b8 [vU v_.Kind, vS s_z15.2.1, vI s_z15.2.2.1, vU s_z15.2.2.2.1, vU s_z15.2.2.2.2.1, vU s_z15.2.2.2.2.2.1, vU s_z15.2.2.2.2.2.2], eB b1 (cV v_)] w') ?_ ?_
 ·replace hm := hz
  refine s_reg [(vU v_.Kind)] [1, 3, 4, 9] (fS [1, 3, 4, 9] [vP b1, vP b8, vI 1000000000000, vU v_.Kind]) [rA b1 0 (vU v_.Kind)] H14 (by kernel_rfl) ⟨((hS.bk 1 rfl).at1 rfl), trivial⟩ fun _ _ H17 hb => ?_
  replace hS := hS.below hb
  clear H14 hb
  apply w_block
  refine s_reg [] [1, 3, 4, 9, 10] (fS [1, 3, 4, 9, 10] [vP b1, vP b8, vI 1000000000000, vU v_.Kind, vB (v_.Kind == 1)]) [] H17 (by kernel_rfl) trivial fun _ _ H19 hb => ?_
  replace hS := hS.below hb
  clear H17 hb
  refine w_if H19 rfl (fun hc => ?c68) (fun hc => ?_)
  case c68 =>
   replace hm := bT hc hm
   apply w_seq
   apply wl_start
   refine wl_batch 0 3 [(vS v_.Word)] [1, 3, 4, 13, 14] (fS [1, 3, 4, 13, 14] [vP b1, vP b8, vI 1000000000000, vS v_.Word, vA b8 1]) [rA b1 1 (vS v_.Word)] H19 (by decide) (by kernel_rfl) ⟨((hS.bk 1 rfl).at1 rfl), trivial⟩ fun _ _ H21 hb => ?_
   replace hS := hS.below hb
   clear H19 hb
   have hd := hS.hand [0] [1] rfl rfl
   refine m_stp0 [1, 3, 4] (fS [1, 3, 4] [vP b1, vP b8, vI 1000000000000]) H21 rfl rfl rfl (o_store [vU v_.Kind, vS v_.Word, vI 0, vU 0, vU 0, vU 0, vU 0] H21 hd rfl rfl (by kernel_rfl) rfl rfl rfl) rfl fun _ _ H23 hq => ?_
   clear H21 hd
   obtain ⟨_, hq⟩ := hq
   replace hS : SH M X w [eB b8 [vU v_.Kind, vS v_.Word, vI 0, vU 0, vU 0, vU 0, vU 0], eB b1 (cV v_)] _ := hS.join [0] [1] rfl rfl hq
   clear hq
   apply wl_end rfl
   refine s_reg [(vS v_.Word)] [1, 3, 4, 17] (fS [1, 3, 4, 17] [vP b1, vP b8, vI 1000000000000, vB (v_.Word == [])]) [rA b1 1 (vS v_.Word)] H23 (by kernel_rfl) ⟨((hS.bk 1 rfl).at1 rfl), trivial⟩ fun _ _ H25 hb => ?_
   replace hS := hS.below hb
   clear H23 hb
   refine w_if H25 rfl (fun hc => ?_) (fun hc => ?c28)
   case c28 =>
    replace hm := bF hc hm
    apply w_skip
    obtain rfl := someE hm
    exact ⟨_, rfl, FrG.keep (ks := [1, 3, 4]) H25 (by kernel_rfl), hS⟩
   replace hm := bT hc hm
   refine s_reg [] [2] [(2, [], vI 8)] [] H25 (by kernel_rfl) trivial fun _ _ H27 hb => ?_
   replace hS := hS.below hb
   clear H25 hb
   apply w_ret
   obtain rfl := someE hm
   have hm := hm_z15
   obtain rfl := someE hm
   exact retR1 H27 rfl rfl ⟨_, rfl, rfl, (hS.sel [] rfl)⟩
  replace hm := bF hc hm
  obtain ⟨z29, hz, hm⟩ := bindE hm
  refine w_cut (fun a' w' => Fr 54 (fS [1, 3, 4, 9, 18] [vP b1, vP b8, vI 1000000000000, vU v_.Kind, vB z29]) a' ∧ SH M X w [eB b8 [vU v_.Kind, vN, vI 0, vU 0, vU 0, vU 0, vU 0], eB b1 (cV v_)] w') ?_ ?_
  ·replace hm := hz
   refine s_reg [] [1, 3, 4, 9, 18] (fS [1, 3, 4, 9, 18] [vP b1, vP b8, vI 1000000000000, vU v_.Kind, vB (v_.Kind == 2)]) [] H19 (by kernel_rfl) trivial fun _ _ H31 hb => ?_
   replace hS := hS.below hb
   clear H19 hb
   refine w_if H31 rfl (fun hc => ?c40) (fun hc => ?_)
   case c40 =>
    replace hm := bT hc hm
    apply w_skip
    obtain rfl := someE hm
    exact ⟨FrG.keep (ks := [1, 3, 4, 9, 18]) H31 (by kernel_rfl), hS⟩
   replace hm := bF hc hm
   refine s_reg [] [1, 3, 4, 9, 18] (fS [1, 3, 4, 9, 18] [vP b1, vP b8, vI 1000000000000, vU v_.Kind, vB (v_.Kind == 3)]) [] H31 (by kernel_rfl) trivial fun _ _ H33 hb => ?_
   replace hS := hS.below hb
   clear H31 hb
   refine w_if H33 rfl (fun hc => ?c39) (fun hc => ?_)
   case c39 =>
    replace hm := bT hc hm
    apply w_skip
    obtain rfl := someE hm
    exact ⟨FrG.keep (ks := [1, 3, 4, 9, 18]) H33 (by kernel_rfl), hS⟩
   replace hm := bF hc hm
   refine s_reg [] [1, 3, 4, 9, 18] (fS [1, 3, 4, 9, 18] [vP b1, vP b8, vI 1000000000000, vU v_.Kind, vB (v_.Kind == 4)]) [] H33 (by kernel_rfl) trivial fun _ _ H35 hb => ?_
   replace hS := hS.below hb
   clear H33 hb
   refine w_if H35 rfl (fun hc => ?c38) (fun hc => ?_)
   case c38 =>
    replace hm := bT hc hm
    apply w_skip
    obtain rfl := someE hm
    exact ⟨FrG.keep (ks := [1, 3, 4, 9, 18]) H35 (by kernel_rfl), hS⟩
   replace hm := bF hc hm
   refine w_reg [] [1, 3, 4, 9, 18] (fS [1, 3, 4, 9, 18] [vP b1, vP b8, vI 1000000000000, vU v_.Kind, vB (v_.Kind == 5)]) [] H35 (by kernel_rfl) trivial fun _ _ H37 hb => ?_
   replace hS := hS.below hb
   clear H35 hb
   obtain rfl := someE hm
   exact ⟨FrG.keep (ks := [1, 3, 4, 9, 18]) H37 (by kernel_rfl), hS⟩
  ·rintro _ _ ⟨H, hS⟩
   refine w_if H rfl (fun hc => ?c66) (fun hc => ?_)
   case c66 =>
    replace hm := bT hc hm
    apply wl_start
    refine wl_batch 0 3 [(vI v_.Num)] [1, 3, 4, 24, 25] (fS [1, 3, 4, 24, 25] [vP b1, vP b8, vI 1000000000000, vI v_.Num, vA b8 2]) [rA b1 2 (vI v_.Num)] H (by decide) (by kernel_rfl) ⟨((hS.bk 1 rfl).at1 rfl), trivial⟩ fun _ _ H42 hb => ?_
    replace hS := hS.below hb
    clear H hb
    have hd := hS.hand [0] [1] rfl rfl
    refine m_stp0 [1, 3, 4] (fS [1, 3, 4] [vP b1, vP b8, vI 1000000000000]) H42 rfl rfl rfl (o_store [vU v_.Kind, vN, vI v_.Num, vU 0, vU 0, vU 0, vU 0] H42 hd rfl rfl (by kernel_rfl) rfl rfl rfl) rfl fun _ _ H44 hq => ?_
    clear H42 hd
    obtain ⟨_, hq⟩ := hq
    replace hS : SH M X w [eB b8 [vU v_.Kind, vN, vI v_.Num, vU 0, vU 0, vU 0, vU 0], eB b1 (cV v_)] _ := hS.join [0] [1] rfl rfl hq
    clear hq
    apply wl_end rfl
    obtain rfl := someE hm
    exact ⟨_, rfl, FrG.keep (ks := [1, 3, 4]) H44 (by kernel_rfl), hS⟩
   replace hm := bF hc hm
   refine s_reg [] [1, 3, 4, 9, 26] (fS [1, 3, 4, 9, 26] [vP b1, vP b8, vI 1000000000000, vU v_.Kind, vB (v_.Kind == 6)]) [] H (by kernel_rfl) trivial fun _ _ H46 hb => ?_
   replace hS := hS.below hb
   clear H hb
   refine w_if H46 rfl (fun hc => ?c65) (fun hc => ?_)
   case c65 =>
    replace hm := bT hc hm
    apply w_seq
    apply wl_start
    refine wl_batch 0 3 [(vI v_.Num)] [1, 3, 29, 30] (fS [1, 3, 29, 30] [vP b1, vP b8, vI v_.Num, vA b8 2]) [rA b1 2 (vI v_.Num)] H46 (by decide) (by kernel_rfl) ⟨((hS.bk 1 rfl).at1 rfl), trivial⟩ fun _ _ H48 hb => ?_
    replace hS := hS.below hb
    clear H46 hb
    have hd := hS.hand [0] [1] rfl rfl
    refine m_stp0 [1, 3] (fS [1, 3] [vP b1, vP b8]) H48 rfl rfl rfl (o_store [vU v_.Kind, vN, vI v_.Num, vU 0, vU 0, vU 0, vU 0] H48 hd rfl rfl (by kernel_rfl) rfl rfl rfl) rfl fun _ _ H50 hq => ?_
    clear H48 hd
    obtain ⟨_, hq⟩ := hq
    replace hS : SH M X w [eB b8 [vU v_.Kind, vN, vI v_.Num, vU 0, vU 0, vU 0, vU 0], eB b1 (cV v_)] _ := hS.join [0] [1] rfl rfl hq
    clear hq
    apply wl_end rfl
    refine w_reg [] [1, 3, 4] (fS [1, 3, 4] [vP b1, vP b8, vI 1000000000]) [] H50 (by kernel_rfl) trivial fun _ _ H52 hb => ?_
    replace hS := hS.below hb
    clear H50 hb
    obtain rfl := someE hm
    exact ⟨_, rfl, FrG.keep (ks := [1, 3, 4]) H52 (by kernel_rfl), hS⟩
   replace hm := bF hc hm
   refine s_reg [] [1, 3, 4, 9, 31] (fS [1, 3, 4, 9, 31] [vP b1, vP b8, vI 1000000000000, vU v_.Kind, vB (v_.Kind == 7)]) [] H46 (by kernel_rfl) trivial fun _ _ H54 hb => ?_
   replace hS := hS.below hb
   clear H46 hb
   refine w_if H54 rfl (fun hc => ?c64) (fun hc => ?_)
   case c64 =>
    replace hm := bT hc hm
    apply wl_start
    refine wl_batch 0 3 [(vG (cC v_.Color))] [1, 3, 4, 34, 35] (fS [1, 3, 4, 34, 35] [vP b1, vP b8, vI 1000000000000, vG (cC v_.Color), vA b8 3]) [rN b1 3 (cC v_.Color)] H54 (by decide) (by kernel_rfl) ⟨((hS.bk 1 rfl).atD rfl), trivial⟩ fun _ _ H56 hb => ?_
    replace hS := hS.below hb
    clear H54 hb
    have hd := hS.hand [0] [1] rfl rfl
    refine m_stp0 [1, 3, 4] (fS [1, 3, 4] [vP b1, vP b8, vI 1000000000000]) H56 rfl rfl rfl (o_store [vU v_.Kind, vN, vI 0, vU v_.Color.Red, vU v_.Color.Green, vU v_.Color.Blue, vU v_.Color.Alpha] H56 hd rfl rfl (by kernel_rfl) rfl rfl rfl) rfl fun _ _ H58 hq => ?_
    clear H56 hd
    obtain ⟨_, hq⟩ := hq
    replace hS : SH M X w [eB b8 [vU v_.Kind, vN, vI 0, vU v_.Color.Red, vU v_.Color.Green, vU v_.Color.Blue, vU v_.Color.Alpha], eB b1 (cV v_)] _ := hS.join [0] [1] rfl rfl hq
    clear hq
    apply wl_end rfl
    obtain rfl := someE hm
    exact ⟨_, rfl, FrG.keep (ks := [1, 3, 4]) H58 (by kernel_rfl), hS⟩
   replace hm := bF hc hm
   refine s_reg [] [1, 3, 4, 36] (fS [1, 3, 4, 36] [vP b1, vP b8, vI 1000000000000, vB (v_.Kind == 8)]) [] H54 (by kernel_rfl) trivial fun _ _ H60 hb => ?_
   replace hS := hS.below hb
   clear H54 hb
   refine w_if H60 rfl (fun hc => ?c63) (fun hc => ?_)
   case c63 =>
    replace hm := bT hc hm
    apply w_skip
    obtain rfl := someE hm
    exact ⟨_, rfl, FrG.keep (ks := [1, 3, 4]) H60 (by kernel_rfl), hS⟩
   replace hm := bF hc hm
   refine s_reg [] [2] [(2, [], vI 8)] [] H60 (by kernel_rfl) trivial fun _ _ H62 hb => ?_
   replace hS := hS.below hb
   clear H60 hb
   apply w_ret
   obtain rfl := someE hm
   have hm := hm_z15
   obtain rfl := someE hm
   exact retR1 H62 rfl rfl ⟨_, rfl, rfl, (hS.sel [] rfl)⟩
 ·rintro _ _ ⟨s_z15, hz, H, hS⟩
  subst hz
  replace hm := sumR hm_z15
  apply w_seq
  obtain ⟨x69, hx69, hm⟩ := letE hm
  obtain ⟨x70, hx70, hm⟩ := letE hm
  obtain ⟨x71, hx71, hm⟩ := letE hm
  refine s_reg [(vG (cV v_)), (vG [vU v_.Kind, vS s_z15.2.1, vI s_z15.2.2.1, vU s_z15.2.2.2.1, vU s_z15.2.2.2.2.1, vU s_z15.2.2.2.2.2.1, vU s_z15.2.2.2.2.2.2]), (vI v_.Num), (vI v_.Num)] [53] [(53, [], vB x71)] [rN b1 0 (cV v_), rN b8 0 [vU v_.Kind, vS s_z15.2.1, vI s_z15.2.2.1, vU s_z15.2.2.2.1, vU s_z15.2.2.2.2.1, vU s_z15.2.2.2.2.2.1, vU s_z15.2.2.2.2.2.2], fun wz => (x69 = false ∧ True → V.at1 ⟨b1, 2, none⟩ (vI v_.Num) wz), fun wz => (x70 = false ∧ True → V.at1 ⟨b1, 2, none⟩ (vI v_.Num) wz)] H (by subst hx69 hx70 hx71; kernel_rfl) ⟨((hS.bk 1 rfl).atD rfl), ((hS.bk 0 rfl).atD rfl), fun hg => (hS.bk 1 rfl).at1 rfl, fun hg => (hS.bk 1 rfl).at1 rfl, trivial⟩ fun _ _ H73 hb => ?_
  replace hS := hS.below hb
  clear H hb
  replace hS : SH M X w [] _ := hS.sel [] rfl
  refine w_if H73 rfl (fun hc => ?c78) (fun hc => ?_)
  case c78 =>
   replace hm := bT hc hm
   refine s_reg [] [2] [(2, [], vI 8)] [] H73 (by kernel_rfl) trivial fun _ _ H75 hb => ?_
   replace hS := hS.below hb
   clear H73 hb
   apply w_ret
   obtain rfl := someE hm
   exact retR1 H75 rfl rfl ⟨_, rfl, rfl, (hS.sel [] rfl)⟩
  replace hm := bF hc hm
  apply w_skip
  refine s_reg [] [2] [(2, [], vI 0)] [] H73 (by kernel_rfl) trivial fun _ _ H77 hb => ?_
  replace hS := hS.below hb
  clear H73 hb
  apply w_ret
  obtain rfl := someE hm
  exact retR1 H77 rfl rfl ⟨_, rfl, rfl, (hS.sel [] rfl)⟩
theorem r25_Check_ok  (v_ : TVal) (r : Int) (hm : r25_Check v_ = some r) : Ret Tryz.prog 115 ⟨[vG (cV v_)]⟩ (vI r) := retP_of (Tryz.call115 _) (fun w h => r25_Check_w F0   v_ r hm w h)

theorem r25_Has_w  (M : Av) (m : Nat) (prop : Int) (v_ : TVal) (r : Bool × Int) (hm : r25_Has m prop v_ = some r) (w : World) (hS : S0 M [] w) : Calls Tryz.prog 95 ⟨[vI prop, vG (cV v_)]⟩ w (fun e w' => ∃ v, e = .returned v ∧ v = vW [vB r.1, vI r.2] ∧ SH M (fpl []) w [] w') := by
 rw [r25_Has] at hm
 have hS0 : SH M (fpl []) w [] w := hS
 generalize hX : fpl [] = X at hS0 ⊢
 clear hS hX
 have hS := hS0
 clear hS0
 refine calls_entryP Tryz.func95 rfl Tryz.ntmps95 rfl fun _ H => ?_
 apply w_seq
 apply wl_start
 have hd := hS.hand [] [] rfl rfl
 refine m_stp [3, 0] [(0, [], vI prop)] H rfl rfl rfl rfl (o_box (cV v_) H hd rfl rfl) (fun _ => rfl) fun _ _ v H3 hq => ?_
 clear H hd
 obtain ⟨b1, rfl, hq⟩ := hq
 replace hS : SH M X w [eB b1 (cV v_)] _ := hS.join [] [] rfl rfl hq
 clear hq
 refine wl_batch 1 3 [] [0, 3] (fS [0, 3] [vI prop, vP b1]) [] H3 (by decide) (by kernel_rfl) trivial fun _ _ H5 hb => ?_
 replace hS := hS.below hb
 clear H3 hb
 apply wl_end rfl
 apply w_seq
 apply wl_start
 obtain ⟨y6, hy6, hm⟩ := bindE hm
 have hd := hS.hand [] [0] rfl rfl
 refine m_stp [10, 0, 3] (fS [0, 3] [vI prop, vP b1]) H5 rfl rfl rfl rfl (o_callx H5 rfl rfl (r25_Table_ok _ hy6 _ _ hd)) (fun _ => rfl) fun _ _ v H10 hq => ?_
 clear H5 hd
 obtain ⟨g7, rfl, hq⟩ := hq
 replace hS : SH M X w [eO 100 tyProp y6 g7, eB b1 (cV v_)] _ := hS.join [] [0] rfl rfl hq
 clear hq
 refine wl_batch 1 2 [] [0, 3, 6] (fS [0, 3, 6] [vI prop, vP b1, vL g7 y6]) [] H10 (by decide) (by kernel_rfl) trivial fun _ _ H12 hb => ?_
 replace hS := hS.below hb
 clear H10 hb
 apply wl_end rfl
 apply w_seq
 obtain ⟨x13, hx13, hm⟩ := letE hm
 refine s_reg [] [0, 3, 6, 18] (fS [0, 3, 6, 18] [vI prop, vP b1, vL g7 y6, vB x13]) [] H12 (by subst hx13; kernel_rfl) trivial fun _ _ H15 hb => ?_
 replace hS := hS.below hb
 clear H12 hb
 refine w_if H15 rfl (fun hc => ?c76) (fun hc => ?_)
 case c76 =>
  replace hm := bT hc hm
  refine s_reg [] [4, 5] (fS [4, 5] [vF, vI 2]) [] H15 (by kernel_rfl) trivial fun _ _ H17 hb => ?_
  replace hS := hS.below hb
  clear H15 hb
  replace hS : SH M X w [] _ := hS.sel [] rfl
  apply w_ret
  obtain rfl := someE hm
  exact retR2 H17 rfl rfl rfl ⟨_, rfl, rfl, (hS.sel [] rfl)⟩
 replace hm := bF hc hm
 apply w_skip
 apply w_seq
 obtain ⟨y18, hy18, hm⟩ := bindE hm
 refine s_reg [(vG (cV v_)), (vI y18)] [0, 3, 6, 21] (fS [0, 3, 6, 21] [vI prop, vP b1, vL g7 y6, vB (y18 != 0)]) [rN b1 0 (cV v_), rB 115 [vG (cV v_)] (vI y18)] H15 (by kernel_rfl) ⟨((hS.bk 1 rfl).atD rfl), ((r25_Check_ok _ _ hy18).b), trivial⟩ fun _ _ H20 hb => ?_
 replace hS := hS.below hb
 clear H15 hb
 refine w_if H20 rfl (fun hc => ?c75) (fun hc => ?_)
 case c75 =>
  replace hm := bT hc hm
  refine s_reg [] [4, 5] (fS [4, 5] [vF, vI 0]) [] H20 (by kernel_rfl) trivial fun _ _ H22 hb => ?_
  replace hS := hS.below hb
  clear H20 hb
  replace hS : SH M X w [] _ := hS.sel [] rfl
  apply w_ret
  obtain rfl := someE hm
  exact retR2 H22 rfl rfl rfl ⟨_, rfl, rfl, (hS.sel [] rfl)⟩
 replace hm := bF hc hm
 apply w_skip
 apply w_seq
 apply wl_start
 obtain ⟨ho23, hm⟩ := chkE hm
 refine wl_batch 0 4 [(vG [vS (gi y6 prop).Name, vB ((gi y6 prop).Inherited), vU ((gi y6 prop).Initial.Kind), vS (gi y6 prop).Initial.Word, vI ((gi y6 prop).Initial.Num), vU ((gi y6 prop).Initial.Color.Red), vU ((gi y6 prop).Initial.Color.Green), vU ((gi y6 prop).Initial.Color.Blue), vU ((gi y6 prop).Initial.Color.Alpha), .slice (g7.s (prop).toNat 0).a (((gi y6 prop).Words).length) (g7.s (prop).toNat 0).c, .slice (g7.s (prop).toNat 1).a (((gi y6 prop).Kinds).length) (g7.s (prop).toNat 1).c, vB ((gi y6 prop).Least)])] [3, 25] (fS [3, 25] [vP b1, vG [vS (gi y6 prop).Name, vB ((gi y6 prop).Inherited), vU ((gi y6 prop).Initial.Kind), vS (gi y6 prop).Initial.Word, vI ((gi y6 prop).Initial.Num), vU ((gi y6 prop).Initial.Color.Red), vU ((gi y6 prop).Initial.Color.Green), vU ((gi y6 prop).Initial.Color.Blue), vU ((gi y6 prop).Initial.Color.Alpha), .slice (g7.s (prop).toNat 0).a (((gi y6 prop).Words).length) (g7.s (prop).toNat 0).c, .slice (g7.s (prop).toNat 1).a (((gi y6 prop).Kinds).length) (g7.s (prop).toNat 1).c, vB ((gi y6 prop).Least)]]) [fun _ => oka g7.a ∧ 0 ≤ prop ∧ prop < ln y6, fun wz => V.atN (ab g7.a) (ao g7.a + (prop).toNat * 12) [vS (gi y6 prop).Name, vB ((gi y6 prop).Inherited), vU ((gi y6 prop).Initial.Kind), vS (gi y6 prop).Initial.Word, vI ((gi y6 prop).Initial.Num), vU ((gi y6 prop).Initial.Color.Red), vU ((gi y6 prop).Initial.Color.Green), vU ((gi y6 prop).Initial.Color.Blue), vU ((gi y6 prop).Initial.Color.Alpha), .slice (g7.s (prop).toNat 0).a (((gi y6 prop).Words).length) (g7.s (prop).toNat 0).c, .slice (g7.s (prop).toNat 1).a (((gi y6 prop).Kinds).length) (g7.s (prop).toNat 1).c, vB ((gi y6 prop).Least)] 0 wz] H20 (by decide) (by kernel_rfl) ⟨((hS.osl 0 rfl).oki ho23), ((hS.osl 0 rfl).atA ho23 0 rfl), trivial⟩ fun _ _ H25 hb => ?_
 replace hS := hS.below hb
 clear H20 hb
 have hd := hS.hand [] [0, 1] rfl rfl
 refine m_stp [7, 3, 25] (fS [3, 25] [vP b1, vG [vS (gi y6 prop).Name, vB ((gi y6 prop).Inherited), vU ((gi y6 prop).Initial.Kind), vS (gi y6 prop).Initial.Word, vI ((gi y6 prop).Initial.Num), vU ((gi y6 prop).Initial.Color.Red), vU ((gi y6 prop).Initial.Color.Green), vU ((gi y6 prop).Initial.Color.Blue), vU ((gi y6 prop).Initial.Color.Alpha), .slice (g7.s (prop).toNat 0).a (((gi y6 prop).Words).length) (g7.s (prop).toNat 0).c, .slice (g7.s (prop).toNat 1).a (((gi y6 prop).Kinds).length) (g7.s (prop).toNat 1).c, vB ((gi y6 prop).Least)]]) H25 rfl rfl rfl rfl (o_alloc [vN, vF, vU 0, vN, vI 0, vU 0, vU 0, vU 0, vU 0, vO, vO, vF] (z := vG [vN, vF, vU 0, vN, vI 0, vU 0, vU 0, vU 0, vU 0, vO, vO, vF]) hd (by kernel_rfl) rfl) (fun _ => rfl) fun _ _ v H28 hq => ?_
 clear H25 hd
 obtain ⟨b26, rfl, hq⟩ := hq
 replace hS : SH M X w [eB b26 [vN, vF, vU 0, vN, vI 0, vU 0, vU 0, vU 0, vU 0, vO, vO, vF], eO 100 tyProp y6 g7, eB b1 (cV v_)] _ := hS.join [] [0, 1] rfl rfl hq
 clear hq
 have hd := hS.hand [0] [1, 2] rfl rfl
 refine m_stp0 [3, 7] (fS [3, 7] [vP b1, vP b26]) H28 rfl rfl rfl (o_store [vS (gi y6 prop).Name, vB ((gi y6 prop).Inherited), vU ((gi y6 prop).Initial.Kind), vS (gi y6 prop).Initial.Word, vI ((gi y6 prop).Initial.Num), vU ((gi y6 prop).Initial.Color.Red), vU ((gi y6 prop).Initial.Color.Green), vU ((gi y6 prop).Initial.Color.Blue), vU ((gi y6 prop).Initial.Color.Alpha), .slice (g7.s (prop).toNat 0).a (((gi y6 prop).Words).length) (g7.s (prop).toNat 0).c, .slice (g7.s (prop).toNat 1).a (((gi y6 prop).Kinds).length) (g7.s (prop).toNat 1).c, vB ((gi y6 prop).Least)] H28 hd rfl rfl (by kernel_rfl) rfl rfl rfl) rfl fun _ _ H30 hq => ?_
 clear H28 hd
 obtain ⟨_, hq⟩ := hq
 replace hS : SH M X w [eB b26 [vS (gi y6 prop).Name, vB ((gi y6 prop).Inherited), vU ((gi y6 prop).Initial.Kind), vS (gi y6 prop).Initial.Word, vI ((gi y6 prop).Initial.Num), vU ((gi y6 prop).Initial.Color.Red), vU ((gi y6 prop).Initial.Color.Green), vU ((gi y6 prop).Initial.Color.Blue), vU ((gi y6 prop).Initial.Color.Alpha), .slice (g7.s (prop).toNat 0).a (((gi y6 prop).Words).length) (g7.s (prop).toNat 0).c, .slice (g7.s (prop).toNat 1).a (((gi y6 prop).Kinds).length) (g7.s (prop).toNat 1).c, vB ((gi y6 prop).Least)], eO 100 tyProp y6 g7, eB b1 (cV v_)] _ := hS.join [0] [1, 2] rfl rfl hq
 clear hq
 apply wl_end rfl
 obtain ⟨z31, hz, hm_z31⟩ := bindE hm
 refine w_cut (fun a' w' => ∃ s_z31 : Unit, z31 = Sum.inr s_z31 ∧ Fr 67 (fS [3, 7] [vP b1, vP b26]) a' ∧ SH M X w [eB b26 [vS (gi y6 prop).Name, vB ((gi y6 prop).Inherited), vU ((gi y6 prop).Initial.Kind), vS (gi y6 prop).Initial.Word, vI ((gi y6 prop).Initial.Num), vU ((gi y6 prop).Initial.Color.Red), vU ((gi y6 prop).Initial.Color.Green), vU ((gi y6 prop).Initial.Color.Blue), vU ((gi y6 prop).Initial.Color.Alpha), .slice (g7.s (prop).toNat 0).a (((gi y6 prop).Words).length) (g7.s (prop).toNat 0).c, .slice (g7.s (prop).toNat 1).a (((gi y6 prop).Kinds).length) (g7.s (prop).toNat 1).c, vB ((gi y6 prop).Least)], eO 100 tyProp y6 g7, eB b1 (cV v_)] w') ?_ ?_
 ·replace hm := hz
  refine s_reg [(vU v_.Kind)] [3, 7, 28] (fS [3, 7, 28] [vP b1, vP b26, vB (v_.Kind == 1)]) [rA b1 0 (vU v_.Kind)] H30 (by kernel_rfl) ⟨((hS.bk 2 rfl).at1 rfl), trivial⟩ fun _ _ H33 hb => ?_
  replace hS := hS.below hb
  clear H30 hb
  refine w_if H33 rfl (fun hc => ?_) (fun hc => ?c53)
  case c53 =>
   replace hm := bF hc hm
   apply w_skip
   obtain rfl := someE hm
   exact ⟨_, rfl, FrG.keep (ks := [3, 7]) H33 (by kernel_rfl), hS⟩
  replace hm := bT hc hm
  obtain ⟨z34, hz, hm_z34⟩ := bindE hm
  refine w_cut (fun a' w' => ∃ s_z34 : Unit, z34 = Sum.inr s_z34 ∧ Fr 67 [] a' ∧ SH M X w [eB b26 [vS (gi y6 prop).Name, vB ((gi y6 prop).Inherited), vU ((gi y6 prop).Initial.Kind), vS (gi y6 prop).Initial.Word, vI ((gi y6 prop).Initial.Num), vU ((gi y6 prop).Initial.Color.Red), vU ((gi y6 prop).Initial.Color.Green), vU ((gi y6 prop).Initial.Color.Blue), vU ((gi y6 prop).Initial.Color.Alpha), .slice (g7.s (prop).toNat 0).a (((gi y6 prop).Words).length) (g7.s (prop).toNat 0).c, .slice (g7.s (prop).toNat 1).a (((gi y6 prop).Kinds).length) (g7.s (prop).toNat 1).c, vB ((gi y6 prop).Least)], eO 100 tyProp y6 g7, eB b1 (cV v_)] w') ?_ ?_
  ·replace hm := hz
   refine s_reg [] [3, 7, 8] (fS [3, 7, 8] [vP b1, vP b26, vI 0]) [] H33 (by kernel_rfl) trivial fun _ _ H36 hb => ?_
   replace hS := hS.below hb
   clear H33 hb
   apply w_block
   refine w_loop (fun kk a' w' => ∃ (v37 : Int), r25_Has_L1 m prop v_ y6 kk v37 = some _ ∧ Fr 67 (fS [3, 7, 8] [vP b1, vP b26, vI v37]) a' ∧ SH M X w [eB b26 [vS (gi y6 prop).Name, vB ((gi y6 prop).Inherited), vU ((gi y6 prop).Initial.Kind), vS (gi y6 prop).Initial.Word, vI ((gi y6 prop).Initial.Num), vU ((gi y6 prop).Initial.Color.Red), vU ((gi y6 prop).Initial.Color.Green), vU ((gi y6 prop).Initial.Color.Blue), vU ((gi y6 prop).Initial.Color.Alpha), .slice (g7.s (prop).toNat 0).a (((gi y6 prop).Words).length) (g7.s (prop).toNat 0).c, .slice (g7.s (prop).toNat 1).a (((gi y6 prop).Kinds).length) (g7.s (prop).toNat 1).c, vB ((gi y6 prop).Least)], eO 100 tyProp y6 g7, eB b1 (cV v_)] w') ⟨_, 0, hm, FrG.keep (ks := [3, 7, 8]) H36 (by kernel_rfl), hS⟩ ?_
   clear hm H36 hS
   rintro kk _ _ ⟨v37, hm, H, hS⟩
   cases kk with
   | zero => exact noneE hm
   | succ kk =>
    rw [r25_Has_L1] at hm
    apply w_seq
    refine s_reg [(.slice (g7.s (prop).toNat 0).a (((gi y6 prop).Words).length) (g7.s (prop).toNat 0).c)] [3, 7, 8, 33] (fS [3, 7, 8, 33] [vP b1, vP b26, vI v37, vB (decide (v37 < (ln ((gi y6 prop).Words))))]) [fun wz => V.at1 ⟨b26, 9, none⟩ (.slice (g7.s (prop).toNat 0).a (((gi y6 prop).Words).length) (g7.s (prop).toNat 0).c) wz] H (by kernel_rfl) ⟨((hS.bk 0 rfl).at1 rfl), trivial⟩ fun _ _ H39 hb => ?_
    replace hS := hS.below hb
    clear H hb
    refine w_if H39 rfl (fun hc => ?_) (fun hc => ?c48)
    case c48 =>
     replace hm := bF hc hm
     apply w_exit rfl
     obtain rfl := someE hm
     exact ⟨_, rfl, FrG.keep (ks := []) H39 (by kernel_rfl), hS⟩
    replace hm := bT hc hm
    apply w_skip
    apply w_seq
    apply w_block
    obtain ⟨ho40, hm⟩ := chkE hm
    refine s_draw [(.slice (g7.s (prop).toNat 0).a (((gi y6 prop).Words).length) (g7.s (prop).toNat 0).c), (vS (gi ((gi y6 prop).Words) v37)), (vS v_.Word)] [3, 7, 8, 43] (fS [3, 7, 8, 43] [vP b1, vP b26, vI v37, vB ((gi ((gi y6 prop).Words) v37) == v_.Word)]) [fun wz => V.at1 ⟨b26, 9, none⟩ (.slice (g7.s (prop).toNat 0).a (((gi y6 prop).Words).length) (g7.s (prop).toNat 0).c) wz, fun _ => oka (g7.s (prop).toNat 0).a ∧ 0 ≤ v37 ∧ v37 < ln ((gi y6 prop).Words), fun wz => V.at1 ⟨ab (g7.s (prop).toNat 0).a, ao (g7.s (prop).toNat 0).a + (v37).toNat * 1, none⟩ (vS (gi ((gi y6 prop).Words) v37)) wz, rA b1 1 (vS v_.Word)] H39 (by kernel_rfl) (by kernel_rfl) (by kernel_rfl) ⟨((hS.bk 0 rfl).at1 rfl), ((tyProp_i0 ((hS.osl 1 rfl).el ho23)).oki ho40), ((tyProp_i0 ((hS.osl 1 rfl).el ho23)).at1 ho40 0 rfl), ((hS.bk 2 rfl).at1 rfl), trivial⟩ fun _ _ H42 hb => ?_
    replace hS := hS.below hb
    clear H39 hb
    refine w_if H42 rfl (fun hc => ?_) (fun hc => ?c47)
    case c47 =>
     replace hm := bF hc hm
     apply w_skip
     refine w_reg [] [3, 7, 8] (fS [3, 7, 8] [vP b1, vP b26, vI (w64 (v37 + 1))]) [] H42 (by kernel_rfl) trivial fun _ _ H46 hb => ?_
     replace hS := hS.below hb
     clear H42 hb
     exact ⟨_, Nat.lt_succ_self _, w64 (v37 + 1), hm, FrG.keep (ks := [3, 7, 8]) H46 (by kernel_rfl), hS⟩
    replace hm := bT hc hm
    refine s_reg [] [4, 5] (fS [4, 5] [vT, vI 0]) [] H42 (by kernel_rfl) trivial fun _ _ H44 hb => ?_
    replace hS := hS.below hb
    clear H42 hb
    apply w_ret
    obtain rfl := someE hm
    have hm := hm_z34
    obtain rfl := someE hm
    have hm := hm_z31
    obtain rfl := someE hm
    exact retR2 H44 rfl rfl rfl ⟨_, rfl, rfl, (hS.sel [] rfl)⟩
  ·rintro _ _ ⟨s_z34, hz, H, hS⟩
   subst hz
   replace hm := sumR hm_z34
   refine s_reg [] [4, 5] (fS [4, 5] [vF, vI 0]) [] H (by kernel_rfl) trivial fun _ _ H51 hb => ?_
   replace hS := hS.below hb
   clear H hb
   apply w_ret
   obtain rfl := someE hm
   have hm := hm_z31
   obtain rfl := someE hm
   exact retR2 H51 rfl rfl rfl ⟨_, rfl, rfl, (hS.sel [] rfl)⟩
 ·rintro _ _ ⟨s_z31, hz, H, hS⟩
  subst hz
  replace hm := sumR hm_z31
  obtain ⟨z54, hz, hm_z54⟩ := bindE hm
  refine w_cut (fun a' w' => ∃ s_z54 : Unit, z54 = Sum.inr s_z54 ∧ Fr 67 [] a' ∧ SH M X w [eB b26 [vS (gi y6 prop).Name, vB ((gi y6 prop).Inherited), vU ((gi y6 prop).Initial.Kind), vS (gi y6 prop).Initial.Word, vI ((gi y6 prop).Initial.Num), vU ((gi y6 prop).Initial.Color.Red), vU ((gi y6 prop).Initial.Color.Green), vU ((gi y6 prop).Initial.Color.Blue), vU ((gi y6 prop).Initial.Color.Alpha), .slice (g7.s (prop).toNat 0).a (((gi y6 prop).Words).length) (g7.s (prop).toNat 0).c, .slice (g7.s (prop).toNat 1).a (((gi y6 prop).Kinds).length) (g7.s (prop).toNat 1).c, vB ((gi y6 prop).Least)], eO 100 tyProp y6 g7, eB b1 (cV v_)] w') ?_ ?_
  ·replace hm := hz
   refine s_reg [] [3, 7, 9] (fS [3, 7, 9] [vP b1, vP b26, vI 0]) [] H (by kernel_rfl) trivial fun _ _ H56 hb => ?_
   replace hS := hS.below hb
   clear H hb
   apply w_block
   refine w_loop (fun kk a' w' => ∃ (v57 : Int), r25_Has_L2 m prop v_ y6 kk v57 = some _ ∧ Fr 67 (fS [3, 7, 9] [vP b1, vP b26, vI v57]) a' ∧ SH M X w [eB b26 [vS (gi y6 prop).Name, vB ((gi y6 prop).Inherited), vU ((gi y6 prop).Initial.Kind), vS (gi y6 prop).Initial.Word, vI ((gi y6 prop).Initial.Num), vU ((gi y6 prop).Initial.Color.Red), vU ((gi y6 prop).Initial.Color.Green), vU ((gi y6 prop).Initial.Color.Blue), vU ((gi y6 prop).Initial.Color.Alpha), .slice (g7.s (prop).toNat 0).a (((gi y6 prop).Words).length) (g7.s (prop).toNat 0).c, .slice (g7.s (prop).toNat 1).a (((gi y6 prop).Kinds).length) (g7.s (prop).toNat 1).c, vB ((gi y6 prop).Least)], eO 100 tyProp y6 g7, eB b1 (cV v_)] w') ⟨_, 0, hm, FrG.keep (ks := [3, 7, 9]) H56 (by kernel_rfl), hS⟩ ?_
   clear hm H56 hS
   rintro kk _ _ ⟨v57, hm, H, hS⟩
   cases kk with
   | zero => exact noneE hm
   | succ kk =>
    rw [r25_Has_L2] at hm
    apply w_seq
    refine s_reg [(.slice (g7.s (prop).toNat 1).a (((gi y6 prop).Kinds).length) (g7.s (prop).toNat 1).c)] [3, 7, 9, 48] (fS [3, 7, 9, 48] [vP b1, vP b26, vI v57, vB (decide (v57 < (ln ((gi y6 prop).Kinds))))]) [fun wz => V.at1 ⟨b26, 10, none⟩ (.slice (g7.s (prop).toNat 1).a (((gi y6 prop).Kinds).length) (g7.s (prop).toNat 1).c) wz] H (by kernel_rfl) ⟨((hS.bk 0 rfl).at1 rfl), trivial⟩ fun _ _ H59 hb => ?_
    replace hS := hS.below hb
    clear H hb
    refine w_if H59 rfl (fun hc => ?_) (fun hc => ?c69)
    case c69 =>
     replace hm := bF hc hm
     apply w_exit rfl
     obtain rfl := someE hm
     exact ⟨_, rfl, FrG.keep (ks := []) H59 (by kernel_rfl), hS⟩
    replace hm := bT hc hm
    apply w_skip
    apply w_seq
    apply w_block
    obtain ⟨ho60, hm⟩ := chkE hm
    refine s_draw [(.slice (g7.s (prop).toNat 1).a (((gi y6 prop).Kinds).length) (g7.s (prop).toNat 1).c), (vU (gi ((gi y6 prop).Kinds) v57)), (vU v_.Kind)] [3, 7, 9, 58] (fS [3, 7, 9, 58] [vP b1, vP b26, vI v57, vB ((gi ((gi y6 prop).Kinds) v57) == v_.Kind)]) [fun wz => V.at1 ⟨b26, 10, none⟩ (.slice (g7.s (prop).toNat 1).a (((gi y6 prop).Kinds).length) (g7.s (prop).toNat 1).c) wz, fun _ => oka (g7.s (prop).toNat 1).a ∧ 0 ≤ v57 ∧ v57 < ln ((gi y6 prop).Kinds), fun wz => V.at1 ⟨ab (g7.s (prop).toNat 1).a, ao (g7.s (prop).toNat 1).a + (v57).toNat * 1, none⟩ (vU (gi ((gi y6 prop).Kinds) v57)) wz, rA b1 0 (vU v_.Kind)] H59 (by kernel_rfl) (by kernel_rfl) (by kernel_rfl) ⟨((hS.bk 0 rfl).at1 rfl), ((tyProp_i1 ((hS.osl 1 rfl).el ho23)).oki ho60), ((tyProp_i1 ((hS.osl 1 rfl).el ho23)).at1 ho60 0 rfl), ((hS.bk 2 rfl).at1 rfl), trivial⟩ fun _ _ H62 hb => ?_
    replace hS := hS.below hb
    clear H59 hb
    refine w_if H62 rfl (fun hc => ?_) (fun hc => ?c68)
    case c68 =>
     replace hm := bF hc hm
     apply w_skip
     refine w_reg [] [3, 7, 9] (fS [3, 7, 9] [vP b1, vP b26, vI (w64 (v57 + 1))]) [] H62 (by kernel_rfl) trivial fun _ _ H67 hb => ?_
     replace hS := hS.below hb
     clear H62 hb
     exact ⟨_, Nat.lt_succ_self _, w64 (v57 + 1), hm, FrG.keep (ks := [3, 7, 9]) H67 (by kernel_rfl), hS⟩
    replace hm := bT hc hm
    obtain ⟨x63, hx63, hm⟩ := letE hm
    refine s_reg [(vB ((gi y6 prop).Least)), (vI v_.Num)] [4, 5] (fS [4, 5] [vB x63, vI 0]) [rA b26 11 (vB ((gi y6 prop).Least)), fun wz => ((!((gi y6 prop).Least)) = false ∧ True → V.at1 ⟨b1, 2, none⟩ (vI v_.Num) wz)] H62 (by subst hx63; kernel_rfl) ⟨((hS.bk 0 rfl).at1 rfl), fun hg => (hS.bk 2 rfl).at1 rfl, trivial⟩ fun _ _ H65 hb => ?_
    replace hS := hS.below hb
    clear H62 hb
    apply w_ret
    obtain rfl := someE hm
    have hm := hm_z54
    obtain rfl := someE hm
    exact retR2 H65 rfl rfl rfl ⟨_, rfl, rfl, (hS.sel [] rfl)⟩
  ·rintro _ _ ⟨s_z54, hz, H, hS⟩
   subst hz
   replace hm := sumR hm_z54
   replace hS : SH M X w [] _ := hS.sel [] rfl
   refine s_reg [] [4, 5] (fS [4, 5] [vF, vI 0]) [] H (by kernel_rfl) trivial fun _ _ H72 hb => ?_
   replace hS := hS.below hb
   clear H hb
   apply w_ret
   obtain rfl := someE hm
   exact retR2 H72 rfl rfl rfl ⟨_, rfl, rfl, (hS.sel [] rfl)⟩
theorem r25_Has_ok  (m : Nat) (prop : Int) (v_ : TVal) (r : Bool × Int) (hm : r25_Has m prop v_ = some r) : Ret Tryz.prog 95 ⟨[vI prop, vG (cV v_)]⟩ (vW [vB r.1, vI r.2]) := retP_of (Tryz.call95 _) (fun w h => r25_Has_w F0 m   prop v_ r hm w h)

theorem r26_names_w  (M : Av)  (r : List Str) (hm : r26_names = r) (w : World) (hS : S0 M [] w) : Calls Tryz.prog 148 ⟨[]⟩ w (fun e w' => ∃ v, e = .returned v ∧ ∃ (g901 : Gh), v = vL g901 r ∧ SH M (fpl []) w [eO 9 tS r g901] w') := by
 rw [r26_names] at hm
 have hS0 : SH M (fpl []) w [] w := hS
 generalize hX : fpl [] = X at hS0 ⊢
 clear hS hX
 have hS := hS0
 clear hS0
 refine calls_entryP Tryz.func148 rfl Tryz.ntmps148 rfl fun _ H => ?_
 refine s_reg [] [] [] [] H (by kernel_rfl) trivial fun _ _ H2 hb => ?_
 replace hS := hS.below hb
 clear H hb
 apply w_seq
 apply wl_start
 have hd := hS.hand [] [] rfl rfl
 refine m_stp [1] [] H2 rfl rfl rfl rfl (o_lit (T := tS) (E := 9) (zv := vN) [vS [98, 108, 97, 99, 107], vS [119, 104, 105, 116, 101], vS [114, 101, 100], vS [108, 105, 109, 101], vS [98, 108, 117, 101], vS [121, 101, 108, 108, 111, 119], vS [103, 114, 97, 121], vS [116, 114, 97, 110, 115, 112, 97, 114, 101, 110, 116]] kL13 [gL [], gL [], gL [], gL [], gL [], gL [], gL [], gL []] _ H2 hd rfl (by kernel_rfl) (by kernel_rfl) (by kernel_rfl) (by kernel_rfl) (by kernel_rfl) (by kernel_rfl) (by kernel_rfl) rfl (InnL.cons trivial (InnL.cons trivial (InnL.cons trivial (InnL.cons trivial (InnL.cons trivial (InnL.cons trivial (InnL.cons trivial (InnL.cons trivial InnL.nil))))))))) (fun _ => rfl) fun _ _ v H6 hq => ?_
 clear H2 hd
 obtain ⟨g3, rfl, hq⟩ := hq
 replace hS : SH M X w [eO 9 tS kL13 g3] _ := hS.join [] [] rfl rfl hq
 clear hq
 refine wl_batch 1 2 [] [0] [(0, [], vK g3 8)] [] H6 (by decide) (by kernel_rfl) trivial fun _ _ H8 hb => ?_
 replace hS := hS.below hb
 clear H6 hb
 apply wl_end rfl
 apply w_ret
 subst hm
 exact retR1 H8 rfl rfl ⟨_, rfl, g3, rfl, (hS.sel [0] rfl)⟩
theorem r26_names_ok   (r : List Str) (hm : r26_names = r) (M : Av) (w : World) (hS : S0 M [] w) : DoesX Tryz.prog 148 ⟨[]⟩ w (fun v w' => ∃ (g901 : Gh), v = vL g901 r ∧ SH M (fpl []) w [eO 9 tS r g901] w') := ⟨Tryz.call148 _, r26_names_w M    r hm w hS⟩

theorem r26_colors_w  (M : Av)  (r : List TColor) (hm : r26_colors = r) (w : World) (hS : S0 M [] w) : Calls Tryz.prog 149 ⟨[]⟩ w (fun e w' => ∃ v, e = .returned v ∧ ∃ (g901 : Gh), v = vL g901 r ∧ SH M (fpl []) w [eO 55 tyColor r g901] w') := by
 rw [r26_colors] at hm
 have hS0 : SH M (fpl []) w [] w := hS
 generalize hX : fpl [] = X at hS0 ⊢
 clear hS hX
 have hS := hS0
 clear hS0
 refine calls_entryP Tryz.func149 rfl Tryz.ntmps149 rfl fun _ H => ?_
 refine s_reg [] [] [] [] H (by kernel_rfl) trivial fun _ _ H2 hb => ?_
 replace hS := hS.below hb
 clear H hb
 apply w_seq
 apply wl_start
 refine wl_batch 0 8 [] [1, 2, 3, 4, 5, 6, 7, 8] (fS [1, 2, 3, 4, 5, 6, 7, 8] [vG [vU 0, vU 0, vU 0, vU 255], vG [vU 255, vU 255, vU 255, vU 255], vG [vU 255, vU 0, vU 0, vU 255], vG [vU 0, vU 255, vU 0, vU 255], vG [vU 0, vU 0, vU 255, vU 255], vG [vU 255, vU 255, vU 0, vU 255], vG [vU 128, vU 128, vU 128, vU 255], vG [vU 0, vU 0, vU 0, vU 0]]) [] H2 (by decide) (by kernel_rfl) trivial fun _ _ H4 hb => ?_
 replace hS := hS.below hb
 clear H2 hb
 have hd := hS.hand [] [] rfl rfl
 refine m_stp [9] [] H4 rfl rfl rfl rfl (o_lit (T := tyColor) (E := 55) (zv := vG [vU 0, vU 0, vU 0, vU 0]) [vU 0, vU 0, vU 0, vU 255, vU 255, vU 255, vU 255, vU 255, vU 255, vU 0, vU 0, vU 255, vU 0, vU 255, vU 0, vU 255, vU 0, vU 0, vU 255, vU 255, vU 255, vU 255, vU 0, vU 255, vU 128, vU 128, vU 128, vU 255, vU 0, vU 0, vU 0, vU 0] ([(TColor.mk 0 0 0 255), (TColor.mk 255 255 255 255), (TColor.mk 255 0 0 255), (TColor.mk 0 255 0 255), (TColor.mk 0 0 255 255), (TColor.mk 255 255 0 255), (TColor.mk 128 128 128 255), (TColor.mk 0 0 0 0)] : List TColor) [gL [], gL [], gL [], gL [], gL [], gL [], gL [], gL []] _ H4 hd rfl (by kernel_rfl) (by kernel_rfl) (by kernel_rfl) (by kernel_rfl) (by kernel_rfl) (by kernel_rfl) (by kernel_rfl) rfl (InnL.cons trivial (InnL.cons trivial (InnL.cons trivial (InnL.cons trivial (InnL.cons trivial (InnL.cons trivial (InnL.cons trivial (InnL.cons trivial InnL.nil))))))))) (fun _ => rfl) fun _ _ v H8 hq => ?_
 clear H4 hd
 obtain ⟨g5, rfl, hq⟩ := hq
 replace hS : SH M X w [eO 55 tyColor ([(TColor.mk 0 0 0 255), (TColor.mk 255 255 255 255), (TColor.mk 255 0 0 255), (TColor.mk 0 255 0 255), (TColor.mk 0 0 255 255), (TColor.mk 255 255 0 255), (TColor.mk 128 128 128 255), (TColor.mk 0 0 0 0)] : List TColor) g5] _ := hS.join [] [] rfl rfl hq
 clear hq
 refine wl_batch 9 10 [] [0] [(0, [], vK g5 8)] [] H8 (by decide) (by kernel_rfl) trivial fun _ _ H10 hb => ?_
 replace hS := hS.below hb
 clear H8 hb
 apply wl_end rfl
 apply w_ret
 subst hm
 exact retR1 H10 rfl rfl ⟨_, rfl, g5, rfl, (hS.sel [0] rfl)⟩
theorem r26_colors_ok   (r : List TColor) (hm : r26_colors = r) (M : Av) (w : World) (hS : S0 M [] w) : DoesX Tryz.prog 149 ⟨[]⟩ w (fun v w' => ∃ (g901 : Gh), v = vL g901 r ∧ SH M (fpl []) w [eO 55 tyColor r g901] w') := ⟨Tryz.call149 _, r26_colors_w M    r hm w hS⟩

theorem r26_Small_w  (M : Av) (m : Nat) (s : Str) (r : Str) (hm : r26_Small m s = some r) (w : World) (hS : S0 M [] w) : Calls Tryz.prog 117 ⟨[vS s]⟩ w (fun e w' => ∃ v, e = .returned v ∧ v = vS r ∧ SH M (fpl []) w [] w') := by
 rw [r26_Small] at hm
 have hS0 : SH M (fpl []) w [] w := hS
 generalize hX : fpl [] = X at hS0 ⊢
 clear hS hX
 have hS := hS0
 clear hS0
 refine calls_entryP Tryz.func117 rfl Tryz.ntmps117 rfl fun _ H => ?_
 refine s_reg [] [0] [(0, [], vS s)] [] H (by kernel_rfl) trivial fun _ _ H2 hb => ?_
 replace hS := hS.below hb
 clear H hb
 apply w_seq
 apply wl_start
 refine wl_batch 0 1 [] [5] [(5, [], vS s)] [] H2 (by decide) (by kernel_rfl) trivial fun _ _ H4 hb => ?_
 replace hS := hS.below hb
 clear H2 hb
 have hd := hS.hand [] [] rfl rfl
 refine m_stp [6] [] H4 rfl rfl rfl rfl (o_bytes (E := 5) H4 hd rfl (by kernel_rfl) (by kernel_rfl) (by kernel_rfl)) (fun _ => rfl) fun _ _ v H8 hq => ?_
 clear H4 hd
 obtain ⟨b5, c6, rfl, hc_b5, hq⟩ := hq
 replace hS : SH M X w [Ent.row .u8 b5 (ofB s) (ln (ofB s))] _ := hS.join [] [] rfl rfl hq
 clear hq
 refine wl_batch 2 3 [] [3] [(3, [], .slice (some ⟨b5, 0, none⟩) ((ofB s).length) c6)] [] H8 (by decide) (by kernel_rfl) trivial fun _ _ H10 hb => ?_
 replace hS := hS.below hb
 clear H8 hb
 apply wl_end rfl
 obtain ⟨z11, hz, hm⟩ := bindE hm
 refine w_cut (fun a' w' => Fr 33 [(3, [], .slice (some ⟨b5, 0, none⟩) ((ofB s).length) c6)] a' ∧ SH M X w [Ent.row .u8 b5 z11 (ln (ofB s))] w') ?_ ?_
 ·replace hm := hz
  refine s_reg [] [3, 4] (fS [3, 4] [.slice (some ⟨b5, 0, none⟩) ((ofB s).length) c6, vI 0]) [] H10 (by kernel_rfl) trivial fun _ _ H13 hb => ?_
  replace hS := hS.below hb
  clear H10 hb
  apply w_block
  refine w_loop (fun kk a' w' => ∃ (v14 : Int) (v15 : List Int), r26_Small_L1 m s kk v14 v15 = some _ ∧ Fr 33 (fS [3, 4] [.slice (some ⟨b5, 0, none⟩) ((ofB s).length) c6, vI v14]) a' ∧ SH M X w [Ent.row .u8 b5 v15 (ln (ofB s))] w') ⟨_, 0, ofB s, hm, FrG.keep (ks := [3, 4]) H13 (by kernel_rfl), hS⟩ ?_
  clear hm H13 hS
  rintro kk _ _ ⟨v14, v15, hm, H, hS⟩
  cases kk with
  | zero => exact noneE hm
  | succ kk =>
   rw [r26_Small_L1] at hm
   apply w_seq
   refine s_reg [] [3, 4, 10] (fS [3, 4, 10] [.slice (some ⟨b5, 0, none⟩) ((ofB s).length) c6, vI v14, vB (decide (v14 < (ln (ofB s))))]) [] H (by kernel_rfl) trivial fun _ _ H17 hb => ?_
   replace hS := hS.below hb
   clear H hb
   refine w_if H17 rfl (fun hc => ?_) (fun hc => ?c32)
   case c32 =>
    replace hm := bF hc hm
    apply w_exit rfl
    obtain rfl := someE hm
    exact ⟨FrG.keep (ks := [3]) H17 (by kernel_rfl), hS⟩
   replace hm := bT hc hm
   apply w_skip
   obtain ⟨z18, hz, hm⟩ := bindE hm
   refine w_cut (fun a' w' => Fr 33 (fS [3, 4] [.slice (some ⟨b5, 0, none⟩) ((ofB s).length) c6, vI v14]) a' ∧ SH M X w [Ent.row .u8 b5 z18 (ln (ofB s))] w') ?_ ?_
   ·replace hm := hz
    apply w_block
    obtain ⟨ho19, hm⟩ := chkE hm
    obtain ⟨x20, hx20, hm⟩ := letE hm
    refine s_reg [(vU (gi v15 v14)), (vU (gi v15 v14))] [3, 4, 24] (fS [3, 4, 24] [.slice (some ⟨b5, 0, none⟩) ((ofB s).length) c6, vI v14, vB x20]) [fun _ => oka (some ⟨b5, 0, none⟩) ∧ 0 ≤ v14 ∧ v14 < ln (ofB s), fun wz => V.at1 ⟨b5, 0 + (v14).toNat * 1, none⟩ (vU (gi v15 v14)) wz, fun _ => ((decide (65 ≤ (gi v15 v14))) = true ∧ True → oka (some ⟨b5, 0, none⟩) ∧ 0 ≤ v14 ∧ v14 < ln (ofB s)), fun wz => ((decide (65 ≤ (gi v15 v14))) = true ∧ True → V.at1 ⟨b5, 0 + (v14).toNat * 1, none⟩ (vU (gi v15 v14)) wz)] H17 (by subst hx20; kernel_rfl) ⟨(⟨rfl, ho19⟩), (Rw.ixn (hS.rw 0 rfl) ho19), fun hg => ⟨rfl, ho19⟩, fun hg => (Rw.ixn (hS.rw 0 rfl) ho19), trivial⟩ fun _ _ H22 hb => ?_
    replace hS := hS.below hb
    clear H17 hb
    refine w_if H22 rfl (fun hc => ?_) (fun hc => ?c28)
    case c28 =>
     replace hm := bF hc hm
     apply w_skip
     obtain rfl := someE hm
     exact ⟨FrG.keep (ks := [3, 4]) H22 (by kernel_rfl), hS⟩
    replace hm := bT hc hm
    apply wl_start
    refine wl_batch 0 6 [(vU (gi v15 v14))] [3, 4, 29, 30] (fS [3, 4, 29, 30] [.slice (some ⟨b5, 0, none⟩) ((ofB s).length) c6, vI v14, vU (wu8 ((gi v15 v14) + 32)), .pointer (some ⟨b5, 0 + (v14).toNat * 1, none⟩)]) [fun _ => oka (some ⟨b5, 0, none⟩) ∧ 0 ≤ v14 ∧ v14 < ln (ofB s), fun wz => V.at1 ⟨b5, 0 + (v14).toNat * 1, none⟩ (vU (gi v15 v14)) wz, fun _ => oka (some ⟨b5, 0, none⟩) ∧ 0 ≤ v14 ∧ v14 < ln (ofB s)] H22 (by decide) (by kernel_rfl) ⟨(⟨rfl, ho19⟩), (Rw.ixn (hS.rw 0 rfl) ho19), (⟨rfl, ho19⟩), trivial⟩ fun _ _ H24 hb => ?_
    replace hS := hS.below hb
    clear H22 hb
    have hd := hS.hand [0] [] rfl rfl
    refine m_stp0 [3, 4] (fS [3, 4] [.slice (some ⟨b5, 0, none⟩) ((ofB s).length) c6, vI v14]) H24 rfl rfl rfl (o_rstore H24 hd rfl rfl (by kernel_rfl) ho19) rfl fun _ _ H26 hq => ?_
    clear H24 hd
    obtain ⟨_, hq⟩ := hq
    obtain ⟨q27, hq27, hm⟩ := letE hm
    rw [← hq27] at hq
    replace hS : SH M X w [Ent.row .u8 b5 q27 (ln (ofB s))] _ := hS.join [0] [] rfl rfl hq
    clear hq
    apply wl_end rfl
    obtain rfl := someE hm
    exact ⟨FrG.keep (ks := [3, 4]) H26 (by kernel_rfl), hS⟩
   ·rintro _ _ ⟨H, hS⟩
    refine w_reg [] [3, 4] (fS [3, 4] [.slice (some ⟨b5, 0, none⟩) ((ofB s).length) c6, vI (w64 (v14 + 1))]) [] H (by kernel_rfl) trivial fun _ _ H30 hb => ?_
    replace hS := hS.below hb
    clear H hb
    exact ⟨_, Nat.lt_succ_self _, w64 (v14 + 1), z18, hm, FrG.keep (ks := [3, 4]) H30 (by kernel_rfl), hS⟩
 ·rintro _ _ ⟨H, hS⟩
  refine s_reg [(vS (toB z11))] [2] [(2, [], vS (toB z11))] [fun wz => ∀ w', Below wz.heap.size wz w' → (convert 98 9 (.slice (some ⟨b5, 0, none⟩) ((ofB s).length) c6)).run Tryz.prog w' = .ok (vS (toB z11)) w'] H (by kernel_rfl) ⟨(conv_row (E := 5) (by kernel_rfl) (by kernel_rfl) (by kernel_rfl) (hS.rw 0 rfl).1 (hS.rw 0 rfl).2), trivial⟩ fun _ _ H35 hb => ?_
  replace hS := hS.below hb
  clear H hb
  replace hS : SH M X w [] _ := hS.sel [] rfl
  apply w_ret
  obtain rfl := someE hm
  exact retR1 H35 rfl rfl ⟨_, rfl, rfl, (hS.sel [] rfl)⟩
theorem r26_Small_ok  (m : Nat) (s : Str) (r : Str) (hm : r26_Small m s = some r) : Ret Tryz.prog 117 ⟨[vS s]⟩ (vS r) := retP_of (Tryz.call117 _) (fun w h => r26_Small_w F0 m   s r hm w h)

theorem r26_Named_w  (M : Av) (m : Nat) (s : Str) (r : TColor × Int) (hm : r26_Named m s = some r) (w : World) (hS : S0 M [] w) : Calls Tryz.prog 129 ⟨[vS s]⟩ w (fun e w' => ∃ v, e = .returned v ∧ v = vW [vG (cC r.1), vI r.2] ∧ SH M (fpl []) w [] w') := by
 rw [r26_Named] at hm
 have hS0 : SH M (fpl []) w [] w := hS
 generalize hX : fpl [] = X at hS0 ⊢
 clear hS hX
 have hS := hS0
 clear hS0
 refine calls_entryP Tryz.func129 rfl Tryz.ntmps129 rfl fun _ H => ?_
 apply w_seq
 apply wl_start
 have hd := hS.hand [] [] rfl rfl
 refine m_stp [2, 0] [(0, [], vS s)] H rfl rfl rfl rfl (o_alloc [vU 0, vU 0, vU 0, vU 0] (z := vG [vU 0, vU 0, vU 0, vU 0]) hd (by kernel_rfl) rfl) (fun _ => rfl) fun _ _ v H3 hq => ?_
 clear H hd
 obtain ⟨b1, rfl, hq⟩ := hq
 replace hS : SH M X w [eB b1 [vU 0, vU 0, vU 0, vU 0]] _ := hS.join [] [] rfl rfl hq
 clear hq
 refine wl_batch 1 2 [] [0, 2] (fS [0, 2] [vS s, vP b1]) [] H3 (by decide) (by kernel_rfl) trivial fun _ _ H5 hb => ?_
 replace hS := hS.below hb
 clear H3 hb
 apply wl_end rfl
 apply w_seq
 apply wl_start
 obtain ⟨y6, hy6, hm⟩ := letE hm
 have hd := hS.hand [] [0] rfl rfl
 refine m_stp [7, 0, 2] (fS [0, 2] [vS s, vP b1]) H5 rfl rfl rfl rfl (o_callx H5 rfl rfl (r26_names_ok _ hy6.symm _ _ hd)) (fun _ => rfl) fun _ _ v H10 hq => ?_
 clear H5 hd
 obtain ⟨g7, rfl, hq⟩ := hq
 replace hS : SH M X w [eO 9 tS y6 g7, eB b1 [vU 0, vU 0, vU 0, vU 0]] _ := hS.join [] [0] rfl rfl hq
 clear hq
 obtain ⟨y11, hy11, hm⟩ := letE hm
 have hd := hS.hand [] [0, 1] rfl rfl
 refine m_stp [8, 0, 2, 7] (fS [0, 2, 7] [vS s, vP b1, vL g7 y6]) H10 rfl rfl rfl rfl (o_callx H10 rfl rfl (r26_colors_ok _ hy11.symm _ _ hd)) (fun _ => rfl) fun _ _ v H15 hq => ?_
 clear H10 hd
 obtain ⟨g12, rfl, hq⟩ := hq
 replace hS : SH M X w [eO 55 tyColor y11 g12, eO 9 tS y6 g7, eB b1 [vU 0, vU 0, vU 0, vU 0]] _ := hS.join [] [0, 1] rfl rfl hq
 clear hq
 refine wl_batch 2 4 [] [0, 2, 4, 5] (fS [0, 2, 4, 5] [vS s, vP b1, vL g7 y6, vL g12 y11]) [] H15 (by decide) (by kernel_rfl) trivial fun _ _ H17 hb => ?_
 replace hS := hS.below hb
 clear H15 hb
 apply wl_end rfl
 obtain ⟨z18, hz, hm_z18⟩ := bindE hm
 refine w_cut (fun a' w' => ∃ s_z18 : Unit, z18 = Sum.inr s_z18 ∧ Fr 27 [(2, [], vP b1)] a' ∧ SH M X w [eO 55 tyColor y11 g12, eO 9 tS y6 g7, eB b1 [vU 0, vU 0, vU 0, vU 0]] w') ?_ ?_
 ·replace hm := hz
  refine s_reg [] [0, 2, 4, 5, 6] (fS [0, 2, 4, 5, 6] [vS s, vP b1, vL g7 y6, vL g12 y11, vI 0]) [] H17 (by kernel_rfl) trivial fun _ _ H20 hb => ?_
  replace hS := hS.below hb
  clear H17 hb
  apply w_block
  refine w_loop (fun kk a' w' => ∃ (v21 : Int), r26_Named_L1 m s y6 y11 kk v21 = some _ ∧ Fr 27 (fS [0, 2, 4, 5, 6] [vS s, vP b1, vL g7 y6, vL g12 y11, vI v21]) a' ∧ SH M X w [eO 55 tyColor y11 g12, eO 9 tS y6 g7, eB b1 [vU 0, vU 0, vU 0, vU 0]] w') ⟨_, 0, hm, FrG.keep (ks := [0, 2, 4, 5, 6]) H20 (by kernel_rfl), hS⟩ ?_
  clear hm H20 hS
  rintro kk _ _ ⟨v21, hm, H, hS⟩
  cases kk with
  | zero => exact noneE hm
  | succ kk =>
   rw [r26_Named_L1] at hm
   apply w_seq
   refine s_reg [] [0, 2, 4, 5, 6, 12] (fS [0, 2, 4, 5, 6, 12] [vS s, vP b1, vL g7 y6, vL g12 y11, vI v21, vB (decide (v21 < (ln y6)))]) [] H (by kernel_rfl) trivial fun _ _ H23 hb => ?_
   replace hS := hS.below hb
   clear H hb
   refine w_if H23 rfl (fun hc => ?_) (fun hc => ?c38)
   case c38 =>
    replace hm := bF hc hm
    apply w_exit rfl
    obtain rfl := someE hm
    exact ⟨_, rfl, FrG.keep (ks := [2]) H23 (by kernel_rfl), hS⟩
   replace hm := bT hc hm
   apply w_skip
   apply w_seq
   apply w_block
   obtain ⟨ho24, hm⟩ := chkE hm
   obtain ⟨y25, hy25, hm⟩ := bindE hm
   refine s_draw [(vS (gi y6 v21)), (vS y25)] [0, 2, 4, 5, 6, 21] (fS [0, 2, 4, 5, 6, 21] [vS s, vP b1, vL g7 y6, vL g12 y11, vI v21, vB ((gi y6 v21) == y25)]) [fun _ => oka g7.a ∧ 0 ≤ v21 ∧ v21 < ln y6, fun wz => V.at1 ⟨ab g7.a, ao g7.a + (v21).toNat * 1, none⟩ (vS (gi y6 v21)) wz, rB 117 [vS s] (vS y25)] H23 (by kernel_rfl) (by kernel_rfl) (by kernel_rfl) ⟨((hS.osl 1 rfl).oki ho24), ((hS.osl 1 rfl).at1 ho24 0 rfl), ((r26_Small_ok m _ _ hy25).b), trivial⟩ fun _ _ H27 hb => ?_
   replace hS := hS.below hb
   clear H23 hb
   refine w_if H27 rfl (fun hc => ?_) (fun hc => ?c37)
   case c37 =>
    replace hm := bF hc hm
    apply w_skip
    refine w_reg [] [0, 2, 4, 5, 6] (fS [0, 2, 4, 5, 6] [vS s, vP b1, vL g7 y6, vL g12 y11, vI (w64 (v21 + 1))]) [] H27 (by kernel_rfl) trivial fun _ _ H36 hb => ?_
    replace hS := hS.below hb
    clear H27 hb
    exact ⟨_, Nat.lt_succ_self _, w64 (v21 + 1), hm, FrG.keep (ks := [0, 2, 4, 5, 6]) H36 (by kernel_rfl), hS⟩
   replace hm := bT hc hm
   apply w_seq
   apply wl_start
   obtain ⟨ho28, hm⟩ := chkE hm
   refine wl_batch 0 4 [(vG [vU ((gi y11 v21).Red), vU ((gi y11 v21).Green), vU ((gi y11 v21).Blue), vU ((gi y11 v21).Alpha)])] [2, 25] (fS [2, 25] [vP b1, vG [vU ((gi y11 v21).Red), vU ((gi y11 v21).Green), vU ((gi y11 v21).Blue), vU ((gi y11 v21).Alpha)]]) [fun _ => oka g12.a ∧ 0 ≤ v21 ∧ v21 < ln y11, fun wz => V.atN (ab g12.a) (ao g12.a + (v21).toNat * 4) [vU ((gi y11 v21).Red), vU ((gi y11 v21).Green), vU ((gi y11 v21).Blue), vU ((gi y11 v21).Alpha)] 0 wz] H27 (by decide) (by kernel_rfl) ⟨((hS.osl 0 rfl).oki ho28), ((hS.osl 0 rfl).atA ho28 0 rfl), trivial⟩ fun _ _ H30 hb => ?_
   replace hS := hS.below hb
   clear H27 hb
   have hd := hS.hand [2] [0, 1] rfl rfl
   refine m_stp0 [2] [(2, [], vP b1)] H30 rfl rfl rfl (o_store [vU ((gi y11 v21).Red), vU ((gi y11 v21).Green), vU ((gi y11 v21).Blue), vU ((gi y11 v21).Alpha)] H30 hd rfl rfl (by kernel_rfl) rfl rfl rfl) rfl fun _ _ H32 hq => ?_
   clear H30 hd
   obtain ⟨_, hq⟩ := hq
   replace hS : SH M X w [eB b1 [vU ((gi y11 v21).Red), vU ((gi y11 v21).Green), vU ((gi y11 v21).Blue), vU ((gi y11 v21).Alpha)], eO 55 tyColor y11 g12, eO 9 tS y6 g7] _ := hS.join [2] [0, 1] rfl rfl hq
   clear hq
   refine wl_batch 5 6 [] [2, 3] (fS [2, 3] [vP b1, vI 0]) [] H32 (by decide) (by kernel_rfl) trivial fun _ _ H34 hb => ?_
   replace hS := hS.below hb
   clear H32 hb
   apply wl_end rfl
   apply w_ret
   obtain rfl := someE hm
   have hm := hm_z18
   obtain rfl := someE hm
   exact retR2 H34 rfl (oneRes_agg rfl (hS.bk 0 rfl) Tryz.underlying55 rfl (by kernel_rfl)) rfl ⟨_, rfl, rfl, (hS.sel [] rfl)⟩
 ·rintro _ _ ⟨s_z18, hz, H, hS⟩
  subst hz
  replace hm := sumR hm_z18
  replace hS : SH M X w [eB b1 [vU 0, vU 0, vU 0, vU 0]] _ := hS.sel [2] rfl
  apply w_seq
  apply wl_start
  refine wl_batch 0 1 [] [2, 26] (fS [2, 26] [vP b1, vG [vU 0, vU 0, vU 0, vU 0]]) [] H (by decide) (by kernel_rfl) trivial fun _ _ H41 hb => ?_
  replace hS := hS.below hb
  clear H hb
  have hd := hS.hand [0] [] rfl rfl
  refine m_stp0 [2] [(2, [], vP b1)] H41 rfl rfl rfl (o_store [vU 0, vU 0, vU 0, vU 0] H41 hd rfl rfl (by kernel_rfl) rfl rfl rfl) rfl fun _ _ H43 hq => ?_
  clear H41 hd
  obtain ⟨_, hq⟩ := hq
  replace hS : SH M X w [eB b1 [vU 0, vU 0, vU 0, vU 0]] _ := hS.join [0] [] rfl rfl hq
  clear hq
  refine wl_batch 2 3 [] [2, 3] (fS [2, 3] [vP b1, vI 6]) [] H43 (by decide) (by kernel_rfl) trivial fun _ _ H45 hb => ?_
  replace hS := hS.below hb
  clear H43 hb
  apply wl_end rfl
  apply w_ret
  obtain rfl := someE hm
  exact retR2 H45 rfl (oneRes_agg rfl (hS.bk 0 rfl) Tryz.underlying55 rfl (by kernel_rfl)) rfl ⟨_, rfl, rfl, (hS.sel [] rfl)⟩
theorem r26_Named_ok  (m : Nat) (s : Str) (r : TColor × Int) (hm : r26_Named m s = some r) : Ret Tryz.prog 129 ⟨[vS s]⟩ (vW [vG (cC r.1), vI r.2]) := retP_of (Tryz.call129 _) (fun w h => r26_Named_w F0 m   s r hm w h)

theorem r26_digit_w  (M : Av) (m : Nat) (c_ : Int) (r : Int) (hm : r26_digit m c_ = some r) (w : World) (hS : S0 M [] w) : Calls Tryz.prog 150 ⟨[vU c_]⟩ w (fun e w' => ∃ v, e = .returned v ∧ v = vI r ∧ SH M (fpl []) w [] w') := by
 rw [r26_digit] at hm
 have hS0 : SH M (fpl []) w [] w := hS
 generalize hX : fpl [] = X at hS0 ⊢
 clear hS hX
 have hS := hS0
 clear hS0
 refine calls_entryP Tryz.func150 rfl Tryz.ntmps150 rfl fun _ H => ?_
 refine s_reg [] [0] [(0, [], vU c_)] [] H (by kernel_rfl) trivial fun _ _ H2 hb => ?_
 replace hS := hS.below hb
 clear H hb
 obtain ⟨z3, hz, hm_z3⟩ := bindE hm
 refine w_cut (fun a' w' => ∃ s_z3 : Unit, z3 = Sum.inr s_z3 ∧ Fr 19 [] a' ∧ SH M X w [] w') ?_ ?_
 ·replace hm := hz
  refine s_reg [] [0, 3] (fS [0, 3] [vU c_, vI 0]) [] H2 (by kernel_rfl) trivial fun _ _ H5 hb => ?_
  replace hS := hS.below hb
  clear H2 hb
  apply w_block
  refine w_loop (fun kk a' w' => ∃ (v6 : Int), r26_digit_L1 m c_ kk v6 = some _ ∧ Fr 19 (fS [0, 3] [vU c_, vI v6]) a' ∧ SH M X w [] w') ⟨_, 0, hm, FrG.keep (ks := [0, 3]) H5 (by kernel_rfl), hS⟩ ?_
  clear hm H5 hS
  rintro kk _ _ ⟨v6, hm, H, hS⟩
  cases kk with
  | zero => exact noneE hm
  | succ kk =>
   rw [r26_digit_L1] at hm
   apply w_seq
   refine s_reg [] [0, 3, 5] (fS [0, 3, 5] [vU c_, vI v6, vB (decide (v6 < 16))]) [] H (by kernel_rfl) trivial fun _ _ H8 hb => ?_
   replace hS := hS.below hb
   clear H hb
   refine w_if H8 rfl (fun hc => ?_) (fun hc => ?c20)
   case c20 =>
    replace hm := bF hc hm
    apply w_exit rfl
    obtain rfl := someE hm
    exact ⟨_, rfl, FrG.keep (ks := []) H8 (by kernel_rfl), hS⟩
   replace hm := bT hc hm
   apply w_skip
   apply w_seq
   apply w_block
   obtain ⟨ho9, hm⟩ := chkE hm
   obtain ⟨x10, hx10, hm⟩ := letE hm
   obtain ⟨ho11, hm⟩ := chkE hm
   obtain ⟨x12, hx12, hm⟩ := letE hm
   refine s_reg [] [0, 3, 17] (fS [0, 3, 17] [vU c_, vI v6, vB x12]) [fun _ => 0 ≤ v6 ∧ v6 < ln [48, 49, 50, 51, 52, 53, 54, 55, 56, 57, 97, 98, 99, 100, 101, 102], fun _ => ((c_ == x10) = false ∧ True → 0 ≤ v6 ∧ v6 < ln [48, 49, 50, 51, 52, 53, 54, 55, 56, 57, 65, 66, 67, 68, 69, 70])] H8 (by subst hx10 hx12; kernel_rfl) ⟨ho9, fun hg => (ho11 hg.1), trivial⟩ fun _ _ H14 hb => ?_
   replace hS := hS.below hb
   clear H8 hb
   refine w_if H14 rfl (fun hc => ?_) (fun hc => ?c19)
   case c19 =>
    replace hm := bF hc hm
    apply w_skip
    refine w_reg [] [0, 3] (fS [0, 3] [vU c_, vI (w64 (v6 + 1))]) [] H14 (by kernel_rfl) trivial fun _ _ H18 hb => ?_
    replace hS := hS.below hb
    clear H14 hb
    exact ⟨_, Nat.lt_succ_self _, w64 (v6 + 1), hm, FrG.keep (ks := [0, 3]) H18 (by kernel_rfl), hS⟩
   replace hm := bT hc hm
   refine s_reg [] [2] [(2, [], vI v6)] [] H14 (by kernel_rfl) trivial fun _ _ H16 hb => ?_
   replace hS := hS.below hb
   clear H14 hb
   apply w_ret
   obtain rfl := someE hm
   have hm := hm_z3
   obtain rfl := someE hm
   exact retR1 H16 rfl rfl ⟨_, rfl, rfl, (hS.sel [] rfl)⟩
 ·rintro _ _ ⟨s_z3, hz, H, hS⟩
  subst hz
  replace hm := sumR hm_z3
  refine s_reg [] [2] [(2, [], vI (-1))] [] H (by kernel_rfl) trivial fun _ _ H23 hb => ?_
  replace hS := hS.below hb
  clear H hb
  apply w_ret
  obtain rfl := someE hm
  exact retR1 H23 rfl rfl ⟨_, rfl, rfl, (hS.sel [] rfl)⟩
theorem r26_digit_ok  (m : Nat) (c_ : Int) (r : Int) (hm : r26_digit m c_ = some r) : Ret Tryz.prog 150 ⟨[vU c_]⟩ (vI r) := retP_of (Tryz.call150 _) (fun w h => r26_digit_w F0 m   c_ r hm w h)

theorem r26_hash_w  (M : Av) (m : Nat) (s : Str) (r : TColor × Bool) (hm : r26_hash m s = some r) (w : World) (hS : S0 M [] w) : Calls Tryz.prog 130 ⟨[vS s]⟩ w (fun e w' => ∃ v, e = .returned v ∧ v = vW [vG (cC r.1), vB r.2] ∧ SH M (fpl []) w [] w') := by
 rw [r26_hash] at hm
 have hS0 : SH M (fpl []) w [] w := hS
 generalize hX : fpl [] = X at hS0 ⊢
 clear hS hX
 have hS := hS0
 clear hS0
 refine calls_entryP Tryz.func130 rfl Tryz.ntmps130 rfl fun _ H => ?_
 apply w_seq
 apply wl_start
 have hd := hS.hand [] [] rfl rfl
 refine m_stp [2, 0] [(0, [], vS s)] H rfl rfl rfl rfl (o_alloc [vU 0, vU 0, vU 0, vU 0] (z := vG [vU 0, vU 0, vU 0, vU 0]) hd (by kernel_rfl) rfl) (fun _ => rfl) fun _ _ v H3 hq => ?_
 clear H hd
 obtain ⟨b1, rfl, hq⟩ := hq
 replace hS : SH M X w [eB b1 [vU 0, vU 0, vU 0, vU 0]] _ := hS.join [] [] rfl rfl hq
 clear hq
 refine wl_batch 1 2 [] [0, 2] (fS [0, 2] [vS s, vP b1]) [] H3 (by decide) (by kernel_rfl) trivial fun _ _ H5 hb => ?_
 replace hS := hS.below hb
 clear H3 hb
 apply wl_end rfl
 refine s_reg [] [0, 2, 4] (fS [0, 2, 4] [vS s, vP b1, vO]) [] H5 (by kernel_rfl) trivial fun _ _ H7 hb => ?_
 replace hS := hS.below hb
 clear H5 hb
 obtain ⟨z8, hz, hm_z8⟩ := bindE hm
 refine w_cut (fun a' w' => ∃ s_z8 : List Int, z8 = Sum.inr s_z8 ∧ ∃ (g66 : Gh), Fr 87 (fS [0, 2, 4] [vS s, vP b1, vL g66 s_z8]) a' ∧ SH M X w [eO 3 (tI .i64) s_z8 g66, eB b1 [vU 0, vU 0, vU 0, vU 0]] w') ?_ ?_
 ·replace hm := hz
  refine s_reg [] [0, 2, 4, 5] (fS [0, 2, 4, 5] [vS s, vP b1, vO, vI 0]) [] H7 (by kernel_rfl) trivial fun _ _ H10 hb => ?_
  replace hS := hS.below hb
  clear H7 hb
  apply w_block
  replace hS : SH M X w [eO 3 (tI .i64) ([] : List Int) (.nil), eB b1 [vU 0, vU 0, vU 0, vU 0]] _ := hS.addNil 3 (tI .i64)
  refine w_loop (fun kk a' w' => ∃ (v12 : List Int) (v14 : Int) (g13 : Gh), r26_hash_L1 m s kk v12 v14 = some _ ∧ Fr 87 (fS [0, 2, 4, 5] [vS s, vP b1, vL g13 v12, vI v14]) a' ∧ SH M X w [eO 3 (tI .i64) v12 g13, eB b1 [vU 0, vU 0, vU 0, vU 0]] w') ⟨_, ([] : List Int), 0, Gh.nil, hm, FrG.keep (ks := [0, 2, 4, 5]) H10 (by kernel_rfl), hS⟩ ?_
  clear hm H10 hS
  rintro kk _ _ ⟨v12, v14, g13, hm, H, hS⟩
  cases kk with
  | zero => exact noneE hm
  | succ kk =>
   rw [r26_hash_L1] at hm
   apply w_seq
   refine s_reg [] [0, 2, 4, 5, 12] (fS [0, 2, 4, 5, 12] [vS s, vP b1, vL g13 v12, vI v14, vB (decide (v14 < (ln s)))]) [] H (by kernel_rfl) trivial fun _ _ H16 hb => ?_
   replace hS := hS.below hb
   clear H hb
   refine w_if H16 rfl (fun hc => ?_) (fun hc => ?c64)
   case c64 =>
    replace hm := bF hc hm
    apply w_exit rfl
    obtain rfl := someE hm
    exact ⟨_, rfl, g13, FrG.keep (ks := [0, 2, 4]) H16 (by kernel_rfl), hS⟩
   replace hm := bT hc hm
   apply w_skip
   obtain ⟨z17, hz, hm_z17⟩ := bindE hm
   refine w_cut (fun a' w' => ∃ s_z17 : List Int, z17 = Sum.inr s_z17 ∧ ∃ (g60 : Gh), Fr 87 (fS [0, 2, 5, 4] [vS s, vP b1, vI v14, vL g60 s_z17]) a' ∧ SH M X w [eO 3 (tI .i64) s_z17 g60, eB b1 [vU 0, vU 0, vU 0, vU 0]] w') ?_ ?_
   ·replace hm := hz
    apply w_block
    obtain ⟨ho18, hm⟩ := chkE hm
    obtain ⟨y19, hy19, hm⟩ := bindE hm
    refine s_reg [(vI y19)] [0, 2, 4, 5, 6] (fS [0, 2, 4, 5, 6] [vS s, vP b1, vL g13 v12, vI v14, vI y19]) [fun _ => 0 ≤ v14 ∧ v14 < ln s, rB 150 [vU (bat s v14)] (vI y19)] H16 (by kernel_rfl) ⟨ho18, ((r26_digit_ok m _ _ hy19).b), trivial⟩ fun _ _ H21 hb => ?_
    replace hS := hS.below hb
    clear H16 hb
    apply w_seq
    refine s_reg [] [0, 2, 4, 5, 6, 20] (fS [0, 2, 4, 5, 6, 20] [vS s, vP b1, vL g13 v12, vI v14, vI y19, vB (decide (y19 < 0))]) [] H21 (by kernel_rfl) trivial fun _ _ H23 hb => ?_
    replace hS := hS.below hb
    clear H21 hb
    refine w_if H23 rfl (fun hc => ?c59) (fun hc => ?_)
    case c59 =>
     replace hm := bT hc hm
     apply w_seq
     apply wl_start
     refine wl_batch 0 1 [] [2, 21] (fS [2, 21] [vP b1, vG [vU 0, vU 0, vU 0, vU 0]]) [] H23 (by decide) (by kernel_rfl) trivial fun _ _ H25 hb => ?_
     replace hS := hS.below hb
     clear H23 hb
     have hd := hS.hand [1] [0] rfl rfl
     refine m_stp0 [2] [(2, [], vP b1)] H25 rfl rfl rfl (o_store [vU 0, vU 0, vU 0, vU 0] H25 hd rfl rfl (by kernel_rfl) rfl rfl rfl) rfl fun _ _ H27 hq => ?_
     clear H25 hd
     obtain ⟨_, hq⟩ := hq
     replace hS : SH M X w [eB b1 [vU 0, vU 0, vU 0, vU 0], eO 3 (tI .i64) v12 g13] _ := hS.join [1] [0] rfl rfl hq
     clear hq
     refine wl_batch 2 3 [] [2, 3] (fS [2, 3] [vP b1, vF]) [] H27 (by decide) (by kernel_rfl) trivial fun _ _ H29 hb => ?_
     replace hS := hS.below hb
     clear H27 hb
     apply wl_end rfl
     apply w_ret
     obtain rfl := someE hm
     have hm := hm_z17
     obtain rfl := someE hm
     have hm := hm_z8
     obtain rfl := someE hm
     exact retR2 H29 rfl (oneRes_agg rfl (hS.bk 0 rfl) Tryz.underlying55 rfl (by kernel_rfl)) rfl ⟨_, rfl, rfl, (hS.sel [] rfl)⟩
    replace hm := bF hc hm
    apply w_skip
    apply w_seq
    apply wl_start
    refine wl_batch 0 2 [] [0, 2, 5, 6, 22, 23] (fS [0, 2, 5, 6, 22, 23] [vS s, vP b1, vI v14, vI y19, vL g13 v12, vI y19]) [] H23 (by decide) (by kernel_rfl) trivial fun _ _ H31 hb => ?_
    replace hS := hS.below hb
    clear H23 hb
    have hd := hS.hand [] [0, 1] rfl rfl
    refine m_stp [24, 0, 2, 5, 6, 22] (fS [0, 2, 5, 6, 22] [vS s, vP b1, vI v14, vI y19, vL g13 v12]) H31 rfl rfl rfl rfl (o_lit (T := (tI .i64)) (E := 3) (zv := vI 0) [vI y19] ([y19] : List Int) [gL []] _ H31 hd rfl (by kernel_rfl) (by kernel_rfl) (by kernel_rfl) (by kernel_rfl) (by kernel_rfl) (by kernel_rfl) (by kernel_rfl) rfl (InnL.cons trivial InnL.nil)) (fun _ => rfl) fun _ _ v H35 hq => ?_
    clear H31 hd
    obtain ⟨g32, rfl, hq⟩ := hq
    replace hS : SH M X w [eO 3 (tI .i64) ([y19] : List Int) g32, eO 3 (tI .i64) v12 g13, eB b1 [vU 0, vU 0, vU 0, vU 0]] _ := hS.join [] [0, 1] rfl rfl hq
    clear hq
    obtain ⟨ho36, hm⟩ := chkE hm
    obtain ⟨q37, hq37, hm⟩ := letE hm
    have hd := hS.hand [1, 0] [2] rfl rfl
    refine m_stp [25, 0, 2, 5, 6] (fS [0, 2, 5, 6] [vS s, vP b1, vI v14, vI y19]) H35 rfl rfl rfl rfl (o_app2 (T := (tI .i64)) (zv := vI 0) (g1 := g13) (g2 := g32) (l1 := v12) (l2 := ([y19] : List Int)) q37 hq37.symm H35 hd rfl rfl rfl rfl rfl rfl rfl (by kernel_rfl) (by kernel_rfl) rfl rfl ho36) (fun _ => rfl) fun _ _ v H39 hq => ?_
    clear H35 hd
    obtain ⟨g40, rfl, hq⟩ := hq
    replace hS : SH M X w [eO 3 (tI .i64) q37 g40, eO 3 (tI .i64) ([y19] : List Int) g32, eB b1 [vU 0, vU 0, vU 0, vU 0]] _ := hS.join [1, 0] [2] rfl rfl hq
    clear hq
    refine wl_batch 4 5 [] [0, 2, 4, 5, 6] (fS [0, 2, 4, 5, 6] [vS s, vP b1, vL g40 q37, vI v14, vI y19]) [] H39 (by decide) (by kernel_rfl) trivial fun _ _ H42 hb => ?_
    replace hS := hS.below hb
    clear H39 hb
    apply wl_end rfl
    replace hS : SH M X w [eO 3 (tI .i64) q37 g40, eB b1 [vU 0, vU 0, vU 0, vU 0]] _ := hS.sel [0, 2] rfl
    refine s_reg [] [0, 2, 4, 5, 6, 28] (fS [0, 2, 4, 5, 6, 28] [vS s, vP b1, vL g40 q37, vI v14, vI y19, vB (decide ((ln s) ≤ 4))]) [] H42 (by kernel_rfl) trivial fun _ _ H44 hb => ?_
    replace hS := hS.below hb
    clear H42 hb
    refine w_if H44 rfl (fun hc => ?_) (fun hc => ?c58)
    case c58 =>
     replace hm := bF hc hm
     apply w_skip
     obtain rfl := someE hm
     exact ⟨_, rfl, g40, FrG.keep (ks := [0, 2, 5, 4]) H44 (by kernel_rfl), hS⟩
    replace hm := bT hc hm
    apply wl_start
    refine wl_batch 0 2 [] [0, 2, 5, 29, 30] (fS [0, 2, 5, 29, 30] [vS s, vP b1, vI v14, vL g40 q37, vI y19]) [] H44 (by decide) (by kernel_rfl) trivial fun _ _ H46 hb => ?_
    replace hS := hS.below hb
    clear H44 hb
    have hd := hS.hand [] [0, 1] rfl rfl
    refine m_stp [31, 0, 2, 5, 29] (fS [0, 2, 5, 29] [vS s, vP b1, vI v14, vL g40 q37]) H46 rfl rfl rfl rfl (o_lit (T := (tI .i64)) (E := 3) (zv := vI 0) [vI y19] ([y19] : List Int) [gL []] _ H46 hd rfl (by kernel_rfl) (by kernel_rfl) (by kernel_rfl) (by kernel_rfl) (by kernel_rfl) (by kernel_rfl) (by kernel_rfl) rfl (InnL.cons trivial InnL.nil)) (fun _ => rfl) fun _ _ v H50 hq => ?_
    clear H46 hd
    obtain ⟨g47, rfl, hq⟩ := hq
    replace hS : SH M X w [eO 3 (tI .i64) ([y19] : List Int) g47, eO 3 (tI .i64) q37 g40, eB b1 [vU 0, vU 0, vU 0, vU 0]] _ := hS.join [] [0, 1] rfl rfl hq
    clear hq
    obtain ⟨ho51, hm⟩ := chkE hm
    obtain ⟨q52, hq52, hm⟩ := letE hm
    have hd := hS.hand [1, 0] [2] rfl rfl
    refine m_stp [32, 0, 2, 5] (fS [0, 2, 5] [vS s, vP b1, vI v14]) H50 rfl rfl rfl rfl (o_app2 (T := (tI .i64)) (zv := vI 0) (g1 := g40) (g2 := g47) (l1 := q37) (l2 := ([y19] : List Int)) q52 hq52.symm H50 hd rfl rfl rfl rfl rfl rfl rfl (by kernel_rfl) (by kernel_rfl) rfl rfl ho51) (fun _ => rfl) fun _ _ v H54 hq => ?_
    clear H50 hd
    obtain ⟨g55, rfl, hq⟩ := hq
    replace hS : SH M X w [eO 3 (tI .i64) q52 g55, eO 3 (tI .i64) ([y19] : List Int) g47, eB b1 [vU 0, vU 0, vU 0, vU 0]] _ := hS.join [1, 0] [2] rfl rfl hq
    clear hq
    refine wl_batch 4 5 [] [0, 2, 4, 5] (fS [0, 2, 4, 5] [vS s, vP b1, vL g55 q52, vI v14]) [] H54 (by decide) (by kernel_rfl) trivial fun _ _ H57 hb => ?_
    replace hS := hS.below hb
    clear H54 hb
    apply wl_end rfl
    replace hS : SH M X w [eO 3 (tI .i64) q52 g55, eB b1 [vU 0, vU 0, vU 0, vU 0]] _ := hS.sel [0, 2] rfl
    obtain rfl := someE hm
    exact ⟨_, rfl, g55, FrG.keep (ks := [0, 2, 5, 4]) H57 (by kernel_rfl), hS⟩
   ·rintro _ _ ⟨s_z17, hz, g60, H, hS⟩
    subst hz
    replace hm := sumR hm_z17
    refine w_reg [] [0, 2, 4, 5] (fS [0, 2, 4, 5] [vS s, vP b1, vL g60 s_z17, vI (w64 (v14 + 1))]) [] H (by kernel_rfl) trivial fun _ _ H62 hb => ?_
    replace hS := hS.below hb
    clear H hb
    exact ⟨_, Nat.lt_succ_self _, s_z17, w64 (v14 + 1), g60, hm, FrG.keep (ks := [0, 2, 4, 5]) H62 (by kernel_rfl), hS⟩
 ·rintro _ _ ⟨s_z8, hz, g66, H, hS⟩
  subst hz
  replace hm := sumR hm_z8
  apply w_seq
  obtain ⟨x68, hx68, hm⟩ := letE hm
  refine s_reg [] [2, 4, 50] (fS [2, 4, 50] [vP b1, vL g66 s_z8, vB (cond x68 ((ln s) != 8) false)]) [] H (by subst hx68; kernel_rfl) trivial fun _ _ H70 hb => ?_
  replace hS := hS.below hb
  clear H hb
  refine w_if H70 rfl (fun hc => ?c130) (fun hc => ?_)
  case c130 =>
   replace hm := bT hc hm
   apply w_seq
   apply wl_start
   refine wl_batch 0 1 [] [2, 51] (fS [2, 51] [vP b1, vG [vU 0, vU 0, vU 0, vU 0]]) [] H70 (by decide) (by kernel_rfl) trivial fun _ _ H72 hb => ?_
   replace hS := hS.below hb
   clear H70 hb
   have hd := hS.hand [1] [0] rfl rfl
   refine m_stp0 [2] [(2, [], vP b1)] H72 rfl rfl rfl (o_store [vU 0, vU 0, vU 0, vU 0] H72 hd rfl rfl (by kernel_rfl) rfl rfl rfl) rfl fun _ _ H74 hq => ?_
   clear H72 hd
   obtain ⟨_, hq⟩ := hq
   replace hS : SH M X w [eB b1 [vU 0, vU 0, vU 0, vU 0], eO 3 (tI .i64) s_z8 g66] _ := hS.join [1] [0] rfl rfl hq
   clear hq
   refine wl_batch 2 3 [] [2, 3] (fS [2, 3] [vP b1, vF]) [] H74 (by decide) (by kernel_rfl) trivial fun _ _ H76 hb => ?_
   replace hS := hS.below hb
   clear H74 hb
   apply wl_end rfl
   replace hS : SH M X w [eB b1 [vU 0, vU 0, vU 0, vU 0]] _ := hS.sel [0] rfl
   apply w_ret
   obtain rfl := someE hm
   exact retR2 H76 rfl (oneRes_agg rfl (hS.bk 0 rfl) Tryz.underlying55 rfl (by kernel_rfl)) rfl ⟨_, rfl, rfl, (hS.sel [] rfl)⟩
  replace hm := bF hc hm
  apply w_skip
  obtain ⟨z77, hz, hm⟩ := bindE hm
  refine w_cut (fun a' w' => ∃ (g94 : Gh), Fr 87 (fS [2, 4] [vP b1, vL g94 z77]) a' ∧ SH M X w [eO 3 (tI .i64) z77 g94, eB b1 [vU 0, vU 0, vU 0, vU 0]] w') ?_ ?_
  ·replace hm := hz
   refine s_reg [] [2, 4, 54] (fS [2, 4, 54] [vP b1, vL g66 s_z8, vB ((ln s_z8) == 6)]) [] H70 (by kernel_rfl) trivial fun _ _ H79 hb => ?_
   replace hS := hS.below hb
   clear H70 hb
   refine w_if H79 rfl (fun hc => ?_) (fun hc => ?c93)
   case c93 =>
    replace hm := bF hc hm
    apply w_skip
    obtain rfl := someE hm
    exact ⟨g66, FrG.keep (ks := [2, 4]) H79 (by kernel_rfl), hS⟩
   replace hm := bT hc hm
   apply wl_start
   refine wl_batch 0 1 [] [2, 55] (fS [2, 55] [vP b1, vL g66 s_z8]) [] H79 (by decide) (by kernel_rfl) trivial fun _ _ H81 hb => ?_
   replace hS := hS.below hb
   clear H79 hb
   have hd := hS.hand [] [0, 1] rfl rfl
   refine m_stp [56, 2, 55] (fS [2, 55] [vP b1, vL g66 s_z8]) H81 rfl rfl rfl rfl (o_lit (T := (tI .i64)) (E := 3) (zv := vI 0) [vI 15, vI 15] kL10 [gL [], gL []] _ H81 hd rfl (by kernel_rfl) (by kernel_rfl) (by kernel_rfl) (by kernel_rfl) (by kernel_rfl) (by kernel_rfl) (by kernel_rfl) rfl (InnL.cons trivial (InnL.cons trivial InnL.nil))) (fun _ => rfl) fun _ _ v H85 hq => ?_
   clear H81 hd
   obtain ⟨g82, rfl, hq⟩ := hq
   replace hS : SH M X w [eO 3 (tI .i64) kL10 g82, eO 3 (tI .i64) s_z8 g66, eB b1 [vU 0, vU 0, vU 0, vU 0]] _ := hS.join [] [0, 1] rfl rfl hq
   clear hq
   obtain ⟨ho86, hm⟩ := chkE hm
   obtain ⟨q87, hq87, hm⟩ := letE hm
   have hd := hS.hand [1, 0] [2] rfl rfl
   refine m_stp [57, 2] [(2, [], vP b1)] H85 rfl rfl rfl rfl (o_app2 (T := (tI .i64)) (zv := vI 0) (g1 := g66) (g2 := g82) (l1 := s_z8) (l2 := kL10) q87 hq87.symm H85 hd rfl rfl rfl rfl rfl rfl rfl (by kernel_rfl) (by kernel_rfl) rfl rfl ho86) (fun _ => rfl) fun _ _ v H89 hq => ?_
   clear H85 hd
   obtain ⟨g90, rfl, hq⟩ := hq
   replace hS : SH M X w [eO 3 (tI .i64) q87 g90, eO 3 (tI .i64) kL10 g82, eB b1 [vU 0, vU 0, vU 0, vU 0]] _ := hS.join [1, 0] [2] rfl rfl hq
   clear hq
   refine wl_batch 3 4 [] [2, 4] (fS [2, 4] [vP b1, vL g90 q87]) [] H89 (by decide) (by kernel_rfl) trivial fun _ _ H92 hb => ?_
   replace hS := hS.below hb
   clear H89 hb
   apply wl_end rfl
   replace hS : SH M X w [eO 3 (tI .i64) q87 g90, eB b1 [vU 0, vU 0, vU 0, vU 0]] _ := hS.sel [0, 2] rfl
   obtain rfl := someE hm
   exact ⟨g90, FrG.keep (ks := [2, 4]) H92 (by kernel_rfl), hS⟩
  ·rintro _ _ ⟨g94, H, hS⟩
   apply w_seq
   apply wl_start
   have hd := hS.hand [] [0, 1] rfl rfl
   refine m_stp [7, 2, 4] (fS [2, 4] [vP b1, vL g94 z77]) H rfl rfl rfl rfl (o_allocR .u8 [0, 0, 0, 0] (z := vG [vU 0, vU 0, vU 0, vU 0]) hd (by kernel_rfl) rfl) (fun _ => rfl) fun _ _ v H97 hq => ?_
   clear H hd
   obtain ⟨b95, rfl, hq⟩ := hq
   replace hS : SH M X w [Ent.row .u8 b95 [0, 0, 0, 0] (4 : Int), eO 3 (tI .i64) z77 g94, eB b1 [vU 0, vU 0, vU 0, vU 0]] _ := hS.join [] [0, 1] rfl rfl hq
   clear hq
   apply wl_end rfl
   obtain ⟨z98, hz, hm⟩ := bindE hm
   refine w_cut (fun a' w' => Fr 87 (fS [2, 7] [vP b1, vP b95]) a' ∧ SH M X w [Ent.row .u8 b95 z98 (4 : Int), eO 3 (tI .i64) z77 g94, eB b1 [vU 0, vU 0, vU 0, vU 0]] w') ?_ ?_
   ·replace hm := hz
    refine s_reg [] [2, 4, 7, 8] (fS [2, 4, 7, 8] [vP b1, vL g94 z77, vP b95, vI 0]) [] H97 (by kernel_rfl) trivial fun _ _ H100 hb => ?_
    replace hS := hS.below hb
    clear H97 hb
    apply w_block
    refine w_loop (fun kk a' w' => ∃ (v101 : Int) (v102 : List Int), r26_hash_L2 m z77 kk v101 v102 = some _ ∧ Fr 87 (fS [2, 4, 7, 8] [vP b1, vL g94 z77, vP b95, vI v101]) a' ∧ SH M X w [Ent.row .u8 b95 v102 (4 : Int), eO 3 (tI .i64) z77 g94, eB b1 [vU 0, vU 0, vU 0, vU 0]] w') ⟨_, 0, [0, 0, 0, 0], hm, FrG.keep (ks := [2, 4, 7, 8]) H100 (by kernel_rfl), hS⟩ ?_
    clear hm H100 hS
    rintro kk _ _ ⟨v101, v102, hm, H, hS⟩
    cases kk with
    | zero => exact noneE hm
    | succ kk =>
     rw [r26_hash_L2] at hm
     apply w_seq
     refine s_reg [] [2, 4, 7, 8, 59] (fS [2, 4, 7, 8, 59] [vP b1, vL g94 z77, vP b95, vI v101, vB (decide (v101 < 4))]) [] H (by kernel_rfl) trivial fun _ _ H104 hb => ?_
     replace hS := hS.below hb
     clear H hb
     refine w_if H104 rfl (fun hc => ?_) (fun hc => ?c116)
     case c116 =>
      replace hm := bF hc hm
      apply w_exit rfl
      obtain rfl := someE hm
      exact ⟨FrG.keep (ks := [2, 7]) H104 (by kernel_rfl), hS⟩
     replace hm := bT hc hm
     apply w_skip
     apply w_seq
     apply w_block
     obtain ⟨ho106, hm⟩ := chkE hm
     obtain ⟨ho107, hm⟩ := chkE hm
     obtain ⟨x108, hx108, hm⟩ := letE hm
     obtain ⟨ho109, hm⟩ := chkE hm
     obtain ⟨q110, hq110, hm⟩ := letE hm
     refine w_drawS (base := (fS [2, 4, 7, 8] [vP b1, vL g94 z77, vP b95, vI v101])) (L := [Ent.row .u8 b95 v102 (4 : Int), eO 3 (tI .i64) z77 g94, eB b1 [vU 0, vU 0, vU 0, vU 0]]) 17 3 (fun yg105 => [vI v101, vL g94 z77, vI v101, vI (w64 (2 * v101)), .pointer (some ⟨ab g94.a, ao g94.a + ((w64 (2 * v101))).toNat * 1, none⟩), vI (gi z77 (w64 (2 * v101))), vI (w64 (16 * (gi z77 (w64 (2 * v101))))), vL g94 z77, vI v101, vI (w64 (2 * v101)), vI (w64 ((w64 (2 * v101)) + 1)), .pointer (some ⟨ab g94.a, ao g94.a + ((w64 ((w64 (2 * v101)) + 1))).toNat * 1, none⟩), vI (gi z77 (w64 ((w64 (2 * v101)) + 1))), vI x108, vU (wu8 x108), .pointer (some ⟨b95, 0 + (v101).toNat * 1, none⟩), undef]) (fun yg105 => [[], [], [], [], [], [], [], [], [], [], [], [], [], [], [], [], [Ent.row .u8 b95 q110 (4 : Int)]]) [[], [], [], [], [18], [18], [], [], [], [], [], [18], [18], [], [], [17], [17]] [[], [], [], [], [], [], [], [], [], [], [], [], [], [], [], [], [17]] [[0], [1], [2], [2, 3], [1, 2, 3, 4], [1, 2, 3, 4, 5], [1, 2, 3, 4, 5, 6], [7], [8], [8, 9], [8, 9, 10], [7, 8, 9, 10, 11], [7, 8, 9, 10, 11, 12], [1, 2, 3, 4, 5, 6, 7, 8, 9, 10, 11, 12, 13], [1, 2, 3, 4, 5, 6, 7, 8, 9, 10, 11, 12, 13, 14], [0, 15], [0, 1, 2, 3, 4, 5, 6, 7, 8, 9, 10, 11, 12, 13, 14, 15, 16]] [] (FrG.keep (ks := [2, 4, 7, 8]) H104 (by kernel_rfl)) (fun _ _ h => by cases h) (by kernel_rfl) hS (by kernel_rfl) rfl rfl (by kernel_rfl) (by kernel_rfl) (by kernel_rfl) (gd_none (by kernel_rfl) _ _) ?hloc_yg105 ?hstep_yg105 fun _ _ yg105 H112 hv hS => ?hK_yg105
     case hloc_yg105 => exact ⟨(fun _ _ _ _ => ⟨rfl, rfl⟩), (fun _ _ _ _ => ⟨rfl, rfl⟩), (fun _ _ _ _ => ⟨rfl, rfl⟩), (fun _ _ _ _ => ⟨rfl, rfl⟩), (fun _ _ _ _ => ⟨rfl, rfl⟩), (fun _ _ _ _ => ⟨rfl, rfl⟩), (fun _ _ _ _ => ⟨rfl, rfl⟩), (fun _ _ _ _ => ⟨rfl, rfl⟩), (fun _ _ _ _ => ⟨rfl, rfl⟩), (fun _ _ _ _ => ⟨rfl, rfl⟩), (fun _ _ _ _ => ⟨rfl, rfl⟩), (fun _ _ _ _ => ⟨rfl, rfl⟩), (fun _ _ _ _ => ⟨rfl, rfl⟩), (fun _ _ _ _ => ⟨rfl, rfl⟩), (fun _ _ _ _ => ⟨rfl, rfl⟩), (fun _ _ _ _ => ⟨rfl, rfl⟩), (fun _ _ _ _ => ⟨rfl, rfl⟩), trivial⟩
     case hstep_yg105 =>
      refine ⟨?_, ?_, ?_, ?_, ?_, ?_, ?_, ?_, ?_, ?_, ?_, ?_, ?_, ?_, ?_, ?_, ?_, trivial⟩
      ·intro o ho a w yg105 M Hb hv hO hS
       obtain rfl := someE ho
       exact Stp.mono (o_evs [] (vI v101) none [] Hb rfl (by kernel_rfl) (fun q e => by cases e)) fun _ _ hq => ⟨gL [], fun _ _ => hq.1, (hS.below hq.2.below).sel [] rfl⟩
      ·intro o ho a w yg105 M Hb hv hO hS
       obtain rfl := someE ho
       exact Stp.mono (o_evs [] (vL g94 z77) none [] Hb rfl (by kernel_rfl) (fun q e => by cases e)) fun _ _ hq => ⟨gL [], fun _ _ => hq.1, (hS.below hq.2.below).sel [] rfl⟩
      ·intro o ho a w yg105 M Hb hv hO hS
       obtain rfl := someE ho
       exact Stp.mono (o_evs [] (vI v101) none [] Hb rfl (by kernel_rfl) (fun q e => by cases e)) fun _ _ hq => ⟨gL [], fun _ _ => hq.1, (hS.below hq.2.below).sel [] rfl⟩
      ·intro o ho a w yg105 M Hb hv hO hS
       obtain rfl := someE ho
       exact Stp.mono (o_evs [] (vI (w64 (2 * v101))) none [] ((Hb).add (hv 2 (by decide) (by decide) 64 rfl)) rfl (by kernel_rfl) (fun q e => by cases e)) fun _ _ hq => ⟨gL [], fun _ _ => hq.1, (hS.below hq.2.below).sel [] rfl⟩
      ·intro o ho a w yg105 M Hb hv hO hS
       obtain rfl := someE ho
       exact Stp.mono (o_evs [] (.pointer (some ⟨ab g94.a, ao g94.a + ((w64 (2 * v101))).toNat * 1, none⟩)) (some (fun _ => oka g94.a ∧ 0 ≤ (w64 (2 * v101)) ∧ (w64 (2 * v101)) < ln z77)) [] (((Hb).add (hv 1 (by decide) (by decide) 63 rfl)).add (hv 3 (by decide) (by decide) 65 rfl)) rfl (by kernel_rfl) (fun q e => by cases e; exact ((hS.osl 0 rfl).oki ho106))) fun _ _ hq => ⟨gL [], fun _ _ => hq.1, (hS.below hq.2.below).sel [0] rfl⟩
      ·intro o ho a w yg105 M Hb hv hO hS
       obtain rfl := someE ho
       exact Stp.mono (o_evs [(vI (gi z77 (w64 (2 * v101))))] (vI (gi z77 (w64 (2 * v101)))) (some (fun wz => V.at1 ⟨ab g94.a, ao g94.a + ((w64 (2 * v101))).toNat * 1, none⟩ (vI (gi z77 (w64 (2 * v101)))) wz)) [] ((Hb).add (hv 4 (by decide) (by decide) 66 rfl)) rfl (by kernel_rfl) (fun q e => by cases e; exact ((hS.osl 0 rfl).at1 ho106 0 rfl))) fun _ _ hq => ⟨gL [], fun _ _ => hq.1, (hS.below hq.2.below).sel [0] rfl⟩
      ·intro o ho a w yg105 M Hb hv hO hS
       obtain rfl := someE ho
       exact Stp.mono (o_evs [] (vI (w64 (16 * (gi z77 (w64 (2 * v101)))))) none [] ((Hb).add (hv 5 (by decide) (by decide) 67 rfl)) rfl (by kernel_rfl) (fun q e => by cases e)) fun _ _ hq => ⟨gL [], fun _ _ => hq.1, (hS.below hq.2.below).sel [] rfl⟩
      ·intro o ho a w yg105 M Hb hv hO hS
       obtain rfl := someE ho
       exact Stp.mono (o_evs [] (vL g94 z77) none [] Hb rfl (by kernel_rfl) (fun q e => by cases e)) fun _ _ hq => ⟨gL [], fun _ _ => hq.1, (hS.below hq.2.below).sel [] rfl⟩
      ·intro o ho a w yg105 M Hb hv hO hS
       obtain rfl := someE ho
       exact Stp.mono (o_evs [] (vI v101) none [] Hb rfl (by kernel_rfl) (fun q e => by cases e)) fun _ _ hq => ⟨gL [], fun _ _ => hq.1, (hS.below hq.2.below).sel [] rfl⟩
      ·intro o ho a w yg105 M Hb hv hO hS
       obtain rfl := someE ho
       exact Stp.mono (o_evs [] (vI (w64 (2 * v101))) none [] ((Hb).add (hv 8 (by decide) (by decide) 70 rfl)) rfl (by kernel_rfl) (fun q e => by cases e)) fun _ _ hq => ⟨gL [], fun _ _ => hq.1, (hS.below hq.2.below).sel [] rfl⟩
      ·intro o ho a w yg105 M Hb hv hO hS
       obtain rfl := someE ho
       exact Stp.mono (o_evs [] (vI (w64 ((w64 (2 * v101)) + 1))) none [] ((Hb).add (hv 9 (by decide) (by decide) 71 rfl)) rfl (by kernel_rfl) (fun q e => by cases e)) fun _ _ hq => ⟨gL [], fun _ _ => hq.1, (hS.below hq.2.below).sel [] rfl⟩
      ·intro o ho a w yg105 M Hb hv hO hS
       obtain rfl := someE ho
       exact Stp.mono (o_evs [] (.pointer (some ⟨ab g94.a, ao g94.a + ((w64 ((w64 (2 * v101)) + 1))).toNat * 1, none⟩)) (some (fun _ => oka g94.a ∧ 0 ≤ (w64 ((w64 (2 * v101)) + 1)) ∧ (w64 ((w64 (2 * v101)) + 1)) < ln z77)) [] (((Hb).add (hv 7 (by decide) (by decide) 69 rfl)).add (hv 10 (by decide) (by decide) 72 rfl)) rfl (by kernel_rfl) (fun q e => by cases e; exact ((hS.osl 0 rfl).oki ho107))) fun _ _ hq => ⟨gL [], fun _ _ => hq.1, (hS.below hq.2.below).sel [0] rfl⟩
      ·intro o ho a w yg105 M Hb hv hO hS
       obtain rfl := someE ho
       exact Stp.mono (o_evs [(vI (gi z77 (w64 ((w64 (2 * v101)) + 1))))] (vI (gi z77 (w64 ((w64 (2 * v101)) + 1)))) (some (fun wz => V.at1 ⟨ab g94.a, ao g94.a + ((w64 ((w64 (2 * v101)) + 1))).toNat * 1, none⟩ (vI (gi z77 (w64 ((w64 (2 * v101)) + 1)))) wz)) [] ((Hb).add (hv 11 (by decide) (by decide) 73 rfl)) rfl (by kernel_rfl) (fun q e => by cases e; exact ((hS.osl 0 rfl).at1 ho107 0 rfl))) fun _ _ hq => ⟨gL [], fun _ _ => hq.1, (hS.below hq.2.below).sel [0] rfl⟩
      ·intro o ho a w yg105 M Hb hv hO hS
       obtain rfl := someE ho
       exact Stp.mono (o_evs [] (vI x108) none [] (((Hb).add (hv 6 (by decide) (by decide) 68 rfl)).add (hv 12 (by decide) (by decide) 74 rfl)) rfl (by subst hx108; kernel_rfl) (fun q e => by cases e)) fun _ _ hq => ⟨gL [], fun _ _ => hq.1, (hS.below hq.2.below).sel [] rfl⟩
      ·intro o ho a w yg105 M Hb hv hO hS
       obtain rfl := someE ho
       exact Stp.mono (o_evs [] (vU (wu8 x108)) none [] ((Hb).add (hv 13 (by decide) (by decide) 75 rfl)) rfl (by kernel_rfl) (fun q e => by cases e)) fun _ _ hq => ⟨gL [], fun _ _ => hq.1, (hS.below hq.2.below).sel [] rfl⟩
      ·intro o ho a w yg105 M Hb hv hO hS
       obtain rfl := someE ho
       exact Stp.mono (o_evs [] (.pointer (some ⟨b95, 0 + (v101).toNat * 1, none⟩)) (some (fun _ => 0 ≤ v101 ∧ v101 < (4 : Int))) [] ((Hb).add (hv 0 (by decide) (by decide) 62 rfl)) rfl (by kernel_rfl) (fun q e => by cases e; exact ho109)) fun _ _ hq => ⟨gL [], fun _ _ => hq.1, (hS.below hq.2.below).sel [0] rfl⟩
      ·intro o ho a w yg105 M Hb hv hO hS0
       obtain rfl := someE ho
       have H : Fr 87 ((fS [77, 76] [.pointer (some ⟨b95, 0 + (v101).toNat * 1, none⟩), vU (wu8 x108)]) ++ (fS [2, 4, 7, 8] [vP b1, vL g94 z77, vP b95, vI v101])) _ := ((Hb).add (hv 14 (by decide) (by decide) 76 rfl)).add (hv 15 (by decide) (by decide) 77 rfl)
       obtain ⟨X, hX⟩ : ∃ X, X = fpl [Ent.row .u8 b95 v102 (4 : Int)] := ⟨_, rfl⟩
       have hS : SH M X w [Ent.row .u8 b95 v102 (4 : Int)] w := by rw [hX]; exact hS0
       have hd := hS.hand [0] [] rfl rfl
       refine Stp.mono (o_rstore H hd rfl rfl (by kernel_rfl) ho109) ?_
       rintro v w2 hq
       rw [← hq110] at hq
       replace hS : SH M X w [Ent.row .u8 b95 q110 (4 : Int)] _ := hS.join [0] [] rfl rfl hq
       clear hq
       rw [hX] at hS
       exact ⟨gL [], (fun _ h => by cases h), hS.sel [0] rfl⟩
     have H113 : Fr 87 (fS [2, 4, 7, 8] [vP b1, vL g94 z77, vP b95, vI v101]) _ := (FrG.keep (ks := [2, 4, 7, 8]) H112 (by kernel_rfl))
     replace hS : SH M X w [Ent.row .u8 b95 q110 (4 : Int), eO 3 (tI .i64) z77 g94, eB b1 [vU 0, vU 0, vU 0, vU 0]] _ := hS
     clear hv H112
     refine w_reg [] [2, 4, 7, 8] (fS [2, 4, 7, 8] [vP b1, vL g94 z77, vP b95, vI (w64 (v101 + 1))]) [] H113 (by kernel_rfl) trivial fun _ _ H115 hb => ?_
     replace hS := hS.below hb
     clear H113 hb
     exact ⟨_, Nat.lt_succ_self _, w64 (v101 + 1), q110, hm, FrG.keep (ks := [2, 4, 7, 8]) H115 (by kernel_rfl), hS⟩
   ·rintro _ _ ⟨H, hS⟩
    replace hS : SH M X w [Ent.row .u8 b95 z98 (4 : Int), eB b1 [vU 0, vU 0, vU 0, vU 0]] _ := hS.sel [0, 2] rfl
    apply w_seq
    apply wl_start
    obtain ⟨ho118, hm⟩ := chkE hm
    obtain ⟨ho119, hm⟩ := chkE hm
    obtain ⟨ho120, hm⟩ := chkE hm
    obtain ⟨ho121, hm⟩ := chkE hm
    refine wl_batch 0 9 [(vU (gi z98 (0 : Int))), (vU (gi z98 (1 : Int))), (vU (gi z98 (2 : Int))), (vU (gi z98 (3 : Int)))] [2, 86] (fS [2, 86] [vP b1, vG [vU (gi z98 (0 : Int)), vU (gi z98 (1 : Int)), vU (gi z98 (2 : Int)), vU (gi z98 (3 : Int))]]) [fun _ => 0 ≤ (0 : Int) ∧ (0 : Int) < (4 : Int), fun wz => V.at1 ⟨b95, 0 + ((0 : Int)).toNat * 1, none⟩ (vU (gi z98 (0 : Int))) wz, fun _ => 0 ≤ (1 : Int) ∧ (1 : Int) < (4 : Int), fun wz => V.at1 ⟨b95, 0 + ((1 : Int)).toNat * 1, none⟩ (vU (gi z98 (1 : Int))) wz, fun _ => 0 ≤ (2 : Int) ∧ (2 : Int) < (4 : Int), fun wz => V.at1 ⟨b95, 0 + ((2 : Int)).toNat * 1, none⟩ (vU (gi z98 (2 : Int))) wz, fun _ => 0 ≤ (3 : Int) ∧ (3 : Int) < (4 : Int), fun wz => V.at1 ⟨b95, 0 + ((3 : Int)).toNat * 1, none⟩ (vU (gi z98 (3 : Int))) wz] H (by decide) (by kernel_rfl) ⟨ho118, (Rw.ixn (hS.rw 0 rfl) ho118), ho119, (Rw.ixn (hS.rw 0 rfl) ho119), ho120, (Rw.ixn (hS.rw 0 rfl) ho120), ho121, (Rw.ixn (hS.rw 0 rfl) ho121), trivial⟩ fun _ _ H123 hb => ?_
    replace hS := hS.below hb
    clear H hb
    have hd := hS.hand [1] [0] rfl rfl
    refine m_stp0 [2] [(2, [], vP b1)] H123 rfl rfl rfl (o_store [vU (gi z98 (0 : Int)), vU (gi z98 (1 : Int)), vU (gi z98 (2 : Int)), vU (gi z98 (3 : Int))] H123 hd rfl rfl (by kernel_rfl) rfl rfl rfl) rfl fun _ _ H125 hq => ?_
    clear H123 hd
    obtain ⟨_, hq⟩ := hq
    replace hS : SH M X w [eB b1 [vU (gi z98 (0 : Int)), vU (gi z98 (1 : Int)), vU (gi z98 (2 : Int)), vU (gi z98 (3 : Int))], Ent.row .u8 b95 z98 (4 : Int)] _ := hS.join [1] [0] rfl rfl hq
    clear hq
    refine wl_batch 10 11 [] [2, 3] (fS [2, 3] [vP b1, vT]) [] H125 (by decide) (by kernel_rfl) trivial fun _ _ H127 hb => ?_
    replace hS := hS.below hb
    clear H125 hb
    apply wl_end rfl
    replace hS : SH M X w [eB b1 [vU (gi z98 (0 : Int)), vU (gi z98 (1 : Int)), vU (gi z98 (2 : Int)), vU (gi z98 (3 : Int))]] _ := hS.sel [0] rfl
    apply w_ret
    obtain rfl := someE hm
    exact retR2 H127 rfl (oneRes_agg rfl (hS.bk 0 rfl) Tryz.underlying55 rfl (by kernel_rfl)) rfl ⟨_, rfl, rfl, (hS.sel [] rfl)⟩
theorem r26_hash_ok  (m : Nat) (s : Str) (r : TColor × Bool) (hm : r26_hash m s = some r) : Ret Tryz.prog 130 ⟨[vS s]⟩ (vW [vG (cC r.1), vB r.2]) := retP_of (Tryz.call130 _) (fun w h => r26_hash_w F0 m   s r hm w h)

theorem r26_Spaceless_w {g_l_ : Gh} (M : Av) (m : Nat) (l_ : List TValue) (r : List TValue) (hm : r26_Spaceless m l_ = some r) (w : World) (hS : S0 M [eI tyValue l_ g_l_] w) : Calls Tryz.prog 151 ⟨[vL g_l_ l_]⟩ w (fun e w' => ∃ v, e = .returned v ∧ ∃ (g901 : Gh), v = vL g901 r ∧ SH M (fpl [eI tyValue l_ g_l_]) w [eO 51 tyValue r g901] w') := by
 rw [r26_Spaceless] at hm
 have hS0 : SH M (fpl [eI tyValue l_ g_l_]) w [eI tyValue l_ g_l_] w := hS
 generalize hX : fpl [eI tyValue l_ g_l_] = X at hS0 ⊢
 clear hS hX
 have hS := hS0
 clear hS0
 refine calls_entryP Tryz.func151 rfl Tryz.ntmps151 rfl fun _ H => ?_
 refine s_reg [] [0] [(0, [], vL g_l_ l_)] [] H (by kernel_rfl) trivial fun _ _ H2 hb => ?_
 replace hS := hS.below hb
 clear H hb
 refine s_reg [] [0, 3] (fS [0, 3] [vL g_l_ l_, vO]) [] H2 (by kernel_rfl) trivial fun _ _ H4 hb => ?_
 replace hS := hS.below hb
 clear H2 hb
 obtain ⟨z5, hz, hm⟩ := bindE hm
 refine w_cut (fun a' w' => ∃ (g39 : Gh), Fr 26 [(3, [], vL g39 z5)] a' ∧ SH M X w [eO 51 tyValue z5 g39, eI tyValue l_ g_l_] w') ?_ ?_
 ·replace hm := hz
  refine s_reg [] [0, 3, 4] (fS [0, 3, 4] [vL g_l_ l_, vO, vI 0]) [] H4 (by kernel_rfl) trivial fun _ _ H7 hb => ?_
  replace hS := hS.below hb
  clear H4 hb
  apply w_block
  replace hS : SH M X w [eO 51 tyValue ([] : List TValue) (.nil), eI tyValue l_ g_l_] _ := hS.addNil 51 tyValue
  refine w_loop (fun kk a' w' => ∃ (v9 : List TValue) (v11 : Int) (g10 : Gh), r26_Spaceless_L1 m l_ kk v9 v11 = some _ ∧ Fr 26 (fS [0, 3, 4] [vL g_l_ l_, vL g10 v9, vI v11]) a' ∧ SH M X w [eO 51 tyValue v9 g10, eI tyValue l_ g_l_] w') ⟨_, ([] : List TValue), 0, Gh.nil, hm, FrG.keep (ks := [0, 3, 4]) H7 (by kernel_rfl), hS⟩ ?_
  clear hm H7 hS
  rintro kk _ _ ⟨v9, v11, g10, hm, H, hS⟩
  cases kk with
  | zero => exact noneE hm
  | succ kk =>
   rw [r26_Spaceless_L1] at hm
   apply w_seq
   refine s_reg [] [0, 3, 4, 8] (fS [0, 3, 4, 8] [vL g_l_ l_, vL g10 v9, vI v11, vB (decide (v11 < (ln l_)))]) [] H (by kernel_rfl) trivial fun _ _ H13 hb => ?_
   replace hS := hS.below hb
   clear H hb
   refine w_if H13 rfl (fun hc => ?_) (fun hc => ?c37)
   case c37 =>
    replace hm := bF hc hm
    apply w_exit rfl
    obtain rfl := someE hm
    exact ⟨g10, FrG.keep (ks := [3]) H13 (by kernel_rfl), hS⟩
   replace hm := bT hc hm
   apply w_skip
   obtain ⟨z14, hz, hm⟩ := bindE hm
   refine w_cut (fun a' w' => ∃ (g33 : Gh), Fr 26 (fS [0, 4, 3] [vL g_l_ l_, vI v11, vL g33 z14]) a' ∧ SH M X w [eO 51 tyValue z14 g33, eI tyValue l_ g_l_] w') ?_ ?_
   ·replace hm := hz
    apply w_block
    obtain ⟨ho15, hm⟩ := chkE hm
    refine s_reg [(vU ((gi l_ v11).Token.Kind))] [0, 3, 4, 17] (fS [0, 3, 4, 17] [vL g_l_ l_, vL g10 v9, vI v11, vB (((gi l_ v11).Token.Kind) != 13)]) [fun _ => oka g_l_.a ∧ 0 ≤ v11 ∧ v11 < ln l_, fun wz => V.at1 ⟨ab g_l_.a, ao g_l_.a + (v11).toNat * 6, none⟩ (vU ((gi l_ v11).Token.Kind)) wz] H13 (by kernel_rfl) ⟨((hS.im 1 rfl).oki ho15), ((hS.im 1 rfl).at1 ho15 0 rfl), trivial⟩ fun _ _ H17 hb => ?_
    replace hS := hS.below hb
    clear H13 hb
    refine w_if H17 rfl (fun hc => ?_) (fun hc => ?c32)
    case c32 =>
     replace hm := bF hc hm
     apply w_skip
     obtain rfl := someE hm
     exact ⟨g10, FrG.keep (ks := [0, 4, 3]) H17 (by kernel_rfl), hS⟩
    replace hm := bT hc hm
    apply wl_start
    refine wl_batch 0 5 [(vG [vU ((gi l_ v11).Token.Kind), vS (gi l_ v11).Token.Text, vI ((gi l_ v11).Token.Num), vS (gi l_ v11).Token.Unit, vB ((gi l_ v11).Token.Flag), .slice (g_l_.s (v11).toNat 0).a (((gi l_ v11).List_).length) (g_l_.s (v11).toNat 0).c])] [0, 4, 18, 22] (fS [0, 4, 18, 22] [vL g_l_ l_, vI v11, vL g10 v9, vG [vU ((gi l_ v11).Token.Kind), vS (gi l_ v11).Token.Text, vI ((gi l_ v11).Token.Num), vS (gi l_ v11).Token.Unit, vB ((gi l_ v11).Token.Flag), .slice (g_l_.s (v11).toNat 0).a (((gi l_ v11).List_).length) (g_l_.s (v11).toNat 0).c]]) [fun _ => oka g_l_.a ∧ 0 ≤ v11 ∧ v11 < ln l_, fun wz => V.atN (ab g_l_.a) (ao g_l_.a + (v11).toNat * 6) [vU ((gi l_ v11).Token.Kind), vS (gi l_ v11).Token.Text, vI ((gi l_ v11).Token.Num), vS (gi l_ v11).Token.Unit, vB ((gi l_ v11).Token.Flag), .slice (g_l_.s (v11).toNat 0).a (((gi l_ v11).List_).length) (g_l_.s (v11).toNat 0).c] 0 wz] H17 (by decide) (by kernel_rfl) ⟨((hS.im 1 rfl).oki ho15), ((hS.im 1 rfl).atA ho15 0 rfl), trivial⟩ fun _ _ H19 hb => ?_
    replace hS := hS.below hb
    clear H17 hb
    replace hS : SH M X w [eI tyValue ((gi l_ v11).List_) (g_l_.s (v11).toNat 0), eO 51 tyValue v9 g10, eI tyValue l_ g_l_] _ := hS.addIm (tyValue_i0 ((hS.im 1 rfl).el ho15))
    have hd := hS.hand [0] [0, 1, 2] rfl rfl
    refine m_stp [23, 0, 4, 18] (fS [0, 4, 18] [vL g_l_ l_, vI v11, vL g10 v9]) H19 rfl rfl rfl rfl (o_lit (T := tyValue) (E := 51) (zv := vG [vU 0, vN, vI 0, vN, vF, vO]) [vU ((gi l_ v11).Token.Kind), vS (gi l_ v11).Token.Text, vI ((gi l_ v11).Token.Num), vS (gi l_ v11).Token.Unit, vB ((gi l_ v11).Token.Flag), .slice (g_l_.s (v11).toNat 0).a (((gi l_ v11).List_).length) (g_l_.s (v11).toNat 0).c] ([(gi l_ v11)] : List TValue) [gL [(g_l_.s (v11).toNat 0)]] _ H19 hd rfl (by kernel_rfl) (by kernel_rfl) (by kernel_rfl) (by kernel_rfl) (by kernel_rfl) (by kernel_rfl) (by kernel_rfl) rfl (InnL.cons (tyValue_mk (hd.im 0 rfl)) InnL.nil)) (fun _ => rfl) fun _ _ v H24 hq => ?_
    clear H19 hd
    obtain ⟨g20, rfl, hq⟩ := hq
    replace hS : SH M X w [eO 51 tyValue ([(gi l_ v11)] : List TValue) g20, eI tyValue ((gi l_ v11).List_) (g_l_.s (v11).toNat 0), eO 51 tyValue v9 g10, eI tyValue l_ g_l_] _ := hS.join [0] [0, 1, 2] rfl rfl hq
    clear hq
    obtain ⟨ho25, hm⟩ := chkE hm
    obtain ⟨q26, hq26, hm⟩ := letE hm
    have hd := hS.hand [2, 0] [1, 3] rfl rfl
    refine m_stp [24, 0, 4] (fS [0, 4] [vL g_l_ l_, vI v11]) H24 rfl rfl rfl rfl (o_app2 (T := tyValue) (zv := vG [vU 0, vN, vI 0, vN, vF, vO]) (g1 := g10) (g2 := g20) (l1 := v9) (l2 := ([(gi l_ v11)] : List TValue)) q26 hq26.symm H24 hd rfl rfl rfl rfl rfl rfl rfl (by kernel_rfl) (by kernel_rfl) rfl rfl ho25) (fun _ => rfl) fun _ _ v H28 hq => ?_
    clear H24 hd
    obtain ⟨g29, rfl, hq⟩ := hq
    replace hS : SH M X w [eO 51 tyValue q26 g29, eO 51 tyValue ([(gi l_ v11)] : List TValue) g20, eI tyValue ((gi l_ v11).List_) (g_l_.s (v11).toNat 0), eI tyValue l_ g_l_] _ := hS.join [2, 0] [1, 3] rfl rfl hq
    clear hq
    refine wl_batch 7 8 [] [0, 3, 4] (fS [0, 3, 4] [vL g_l_ l_, vL g29 q26, vI v11]) [] H28 (by decide) (by kernel_rfl) trivial fun _ _ H31 hb => ?_
    replace hS := hS.below hb
    clear H28 hb
    apply wl_end rfl
    replace hS : SH M X w [eO 51 tyValue q26 g29, eI tyValue l_ g_l_] _ := hS.sel [0, 3] rfl
    obtain rfl := someE hm
    exact ⟨g29, FrG.keep (ks := [0, 4, 3]) H31 (by kernel_rfl), hS⟩
   ·rintro _ _ ⟨g33, H, hS⟩
    refine w_reg [] [0, 3, 4] (fS [0, 3, 4] [vL g_l_ l_, vL g33 z14, vI (w64 (v11 + 1))]) [] H (by kernel_rfl) trivial fun _ _ H35 hb => ?_
    replace hS := hS.below hb
    clear H hb
    exact ⟨_, Nat.lt_succ_self _, z14, w64 (v11 + 1), g33, hm, FrG.keep (ks := [0, 3, 4]) H35 (by kernel_rfl), hS⟩
 ·rintro _ _ ⟨g39, H, hS⟩
  replace hS : SH M X w [eO 51 tyValue z5 g39] _ := hS.sel [0] rfl
  refine s_reg [] [2] [(2, [], vL g39 z5)] [] H (by kernel_rfl) trivial fun _ _ H42 hb => ?_
  replace hS := hS.below hb
  clear H hb
  apply w_ret
  obtain rfl := someE hm
  exact retR1 H42 rfl rfl ⟨_, rfl, g39, rfl, (hS.sel [0] rfl)⟩
theorem r26_Spaceless_ok {g_l_ : Gh} (m : Nat) (l_ : List TValue) (r : List TValue) (hm : r26_Spaceless m l_ = some r) (M : Av) (w : World) (hS : S0 M [eI tyValue l_ g_l_] w) : DoesX Tryz.prog 151 ⟨[vL g_l_ l_]⟩ w (fun v w' => ∃ (g901 : Gh), v = vL g901 r ∧ SH M (fpl [eI tyValue l_ g_l_]) w [eO 51 tyValue r g901] w') := ⟨Tryz.call151 _, r26_Spaceless_w M m   l_ r hm w hS⟩

theorem r26_held_w  (M : Av) (n_ : Int) (low : Int) (high_ : Int) (r : Int) (hm : r26_held n_ low high_ = r) (w : World) (hS : S0 M [] w) : Calls Tryz.prog 152 ⟨[vI n_, vI low, vI high_]⟩ w (fun e w' => ∃ v, e = .returned v ∧ v = vI r ∧ SH M (fpl []) w [] w') := by
 rw [r26_held] at hm
 have hS0 : SH M (fpl []) w [] w := hS
 generalize hX : fpl [] = X at hS0 ⊢
 clear hS hX
 have hS := hS0
 clear hS0
 refine calls_entryP Tryz.func152 rfl Tryz.ntmps152 rfl fun _ H => ?_
 refine s_reg [] [0, 1, 2] (fS [0, 1, 2] [vI n_, vI low, vI high_]) [] H (by kernel_rfl) trivial fun _ _ H2 hb => ?_
 replace hS := hS.below hb
 clear H hb
 obtain ⟨x3, hx3, hm⟩ := letE hm
 refine s_reg [] [6] [(6, [], vI x3)] [] H2 (by subst hx3; kernel_rfl) trivial fun _ _ H5 hb => ?_
 replace hS := hS.below hb
 clear H2 hb
 apply w_ret
 subst hm
 exact retR1 H5 rfl rfl ⟨_, rfl, rfl, (hS.sel [] rfl)⟩
theorem r26_held_ok  (n_ : Int) (low : Int) (high_ : Int) : Ret Tryz.prog 152 ⟨[vI n_, vI low, vI high_]⟩ (vI (r26_held n_ low high_)) := retP_of (Tryz.call152 _) (fun w h => r26_held_w F0   n_ low high_ _ rfl w h)

end Go.Proofs.YtpgflfjmjppmeaaGreatDoor
