/-
  What the Go functions compute, as Lean functions, and that a call returns just that. Printed by a program.
-/
import Derived.Test.YtemchjneoalnoaaGreatDoorRows
import Derived.Test.YtemchjneoalnoaaGreatDoorX
import Derived.Test.YtemchjneoalnoaaGreatDoorIF
import Derived.Test.YtemchjneoalnoaaGreatDoorMP
import Derived.Test.YtemchjneoalnoaaGreatDoorM
import Derived.Test.YtemchjneoalnoaaGreatDoorW26kc
set_option linter.unusedVariables false
set_option maxRecDepth 20000
set_option maxHeartbeats 4000000
namespace Go.Proofs.YtemchjneoalnoaaGreatDoor
open Go.V Go.RowKit

theorem law26_ParsevalKept_w {g_l_ : Gh} (M : Av) (m : Nat) (prop : Int) (l_ : List TValue) (r : Bool) (hm : law26_ParsevalKept m prop l_ = some r) (w : World) (hS : S0 M [eI tyValue l_ g_l_, gE1, Ent.tab 0 (Lib.pow10Tab.map fun z => Value.int .u64 z), gE5] w) : Calls Tryz.prog 7 ⟨[vI prop, vL g_l_ l_]⟩ w (fun e w' => ∃ v, e = .returned v ∧ v = vB r ∧ SH M (fpl [eI tyValue l_ g_l_, gE1, Ent.tab 0 (Lib.pow10Tab.map fun z => Value.int .u64 z), gE5]) w [] w') := by
 rw [law26_ParsevalKept] at hm
 have hS0 : SH M (fpl [eI tyValue l_ g_l_, gE1, Ent.tab 0 (Lib.pow10Tab.map fun z => Value.int .u64 z), gE5]) w [eI tyValue l_ g_l_, gE1, Ent.tab 0 (Lib.pow10Tab.map fun z => Value.int .u64 z), gE5] w := hS
 generalize hX : fpl [eI tyValue l_ g_l_, gE1, Ent.tab 0 (Lib.pow10Tab.map fun z => Value.int .u64 z), gE5] = X at hS0 ⊢
 clear hS hX
 have hS := hS0
 clear hS0
 refine calls_entryP Tryz.func7 rfl Tryz.ntmps7 rfl fun _ H => ?_
 refine s_reg [] [0, 1] [(0, [], vI prop), (1, [], vL g_l_ l_)] [] H (by kernel_rfl) trivial fun _ _ H2 hb => ?_
 replace hS := hS.below hb
 clear H hb
 obtain ⟨y3, hy3, hm⟩ := bindE hm
 refine s_reg [(vB y3)] [0, 1, 5] [(0, [], vI prop), (1, [], vL g_l_ l_), (5, [], vB y3)] [rB 8 [] (vB y3)] H2 (by kernel_rfl) ⟨(law26_alive_ok 300 _ hy3 _ (s0im (s0tab (s0im s0nil (hS.im 3 rfl)) (hS.at 2 rfl)) (hS.im 1 rfl))), trivial⟩ fun _ _ H5 hb => ?_
 replace hS := hS.below hb
 clear H2 hb
 refine w_seq ?_
 obtain ⟨y6, hy6, hm⟩ := bindE hm
 refine s_reg [(vB y6)] [0, 1, 5, 18] [(0, [], vI prop), (1, [], vL g_l_ l_), (5, [], vB y3), (18, [], vB (cond y6 true (!y3)))] [rB 9 [vL g_l_ l_] (vB y6)] H5 (by kernel_rfl) ⟨(r04_Great_ok (g_v_ := g_l_) m _ _ hy6 _ (s0im s0nil (hS.im 0 rfl))), trivial⟩ fun _ _ H8 hb => ?_
 replace hS := hS.below hb
 clear H5 hb
 refine w_if H8 rfl (fun hc => ?c39) (fun hc => ?_)
 case c39 =>
  replace hm := bT hc hm
  refine s_reg [] [4] [(4, [], vB y3)] [] H8 (by kernel_rfl) trivial fun _ _ H10 hb => ?_
  replace hS := hS.below hb
  clear H8 hb
  replace hS : SH M X w [gE1, Ent.tab 0 (Lib.pow10Tab.map fun z => Value.int .u64 z), gE5] _ := hS.sel [1, 2, 3] rfl
  refine w_ret ?_
  obtain rfl := someE hm
  exact retR1 H10 rfl rfl ⟨_, rfl, rfl, (hS.sel [] rfl)⟩
 replace hm := bF hc hm
 refine w_skip ?_
 refine w_seq ?_
 refine wl_start ?_
 obtain ⟨y11, hy11, hm⟩ := bindE hm
 refine wl_batch 0 6 [(vW [vG [vU y11.1.Kind, vS y11.1.Word, vI y11.1.Num, vU y11.1.Color.Red, vU y11.1.Color.Green, vU y11.1.Color.Blue, vU y11.1.Color.Alpha], vI y11.2])] [0, 5, 24, 25] [(0, [], vI prop), (5, [], vB y3), (24, [], vG [vU y11.1.Kind, vS y11.1.Word, vI y11.1.Num, vU y11.1.Color.Red, vU y11.1.Color.Green, vU y11.1.Color.Blue, vU y11.1.Color.Alpha]), (25, [], vI y11.2)] [rB 10 [vI prop, vL g_l_ l_] (vW [vG [vU y11.1.Kind, vS y11.1.Word, vI y11.1.Num, vU y11.1.Color.Red, vU y11.1.Color.Green, vU y11.1.Color.Blue, vU y11.1.Color.Alpha], vI y11.2])] H8 (by decide) (by kernel_rfl) ⟨(parseval_Parse_ok (g_l_ := g_l_) m _ _ _ hy11 _ (s0im (s0im s0nil (hS.im 1 rfl)) (hS.im 0 rfl))), trivial⟩ fun _ _ H13 hb => ?_
 replace hS := hS.below hb
 clear H8 hb
 have hd := hS.hand [] [0, 1, 2, 3] rfl rfl
 refine m_stp [6, 0, 5, 24, 25] [(0, [], vI prop), (5, [], vB y3), (24, [], vG [vU y11.1.Kind, vS y11.1.Word, vI y11.1.Num, vU y11.1.Color.Red, vU y11.1.Color.Green, vU y11.1.Color.Blue, vU y11.1.Color.Alpha]), (25, [], vI y11.2)] H13 rfl rfl rfl rfl (o_alloc [vU 0, vN, vI 0, vU 0, vU 0, vU 0, vU 0] (z := vG [vU 0, vN, vI 0, vU 0, vU 0, vU 0, vU 0]) hd (by kernel_rfl) rfl) (fun _ => rfl) fun _ _ v H16 hq => ?_
 clear H13 hd
 obtain ⟨b14, rfl, hq⟩ := hq
 replace hS : SH M X w [eB b14 [vU 0, vN, vI 0, vU 0, vU 0, vU 0, vU 0], eI tyValue l_ g_l_, gE1, Ent.tab 0 (Lib.pow10Tab.map fun z => Value.int .u64 z), gE5] _ := hS.join [] [0, 1, 2, 3] rfl rfl hq
 clear hq
 have hd := hS.hand [0] [1, 2, 3, 4] rfl rfl
 refine m_stp0 [0, 5, 6, 25] [(0, [], vI prop), (5, [], vB y3), (6, [], vP b14), (25, [], vI y11.2)] H16 rfl rfl rfl (o_store [vU y11.1.Kind, vS y11.1.Word, vI y11.1.Num, vU y11.1.Color.Red, vU y11.1.Color.Green, vU y11.1.Color.Blue, vU y11.1.Color.Alpha] H16 hd rfl rfl (by kernel_rfl) rfl rfl rfl) rfl fun _ _ H18 hq => ?_
 clear H16 hd
 obtain ⟨_, hq⟩ := hq
 replace hS : SH M X w [eB b14 [vU y11.1.Kind, vS y11.1.Word, vI y11.1.Num, vU y11.1.Color.Red, vU y11.1.Color.Green, vU y11.1.Color.Blue, vU y11.1.Color.Alpha], eI tyValue l_ g_l_, gE1, Ent.tab 0 (Lib.pow10Tab.map fun z => Value.int .u64 z), gE5] _ := hS.join [0] [1, 2, 3, 4] rfl rfl hq
 clear hq
 refine wl_batch 8 9 [] [0, 5, 6, 7] [(0, [], vI prop), (5, [], vB y3), (6, [], vP b14), (7, [], vI y11.2)] [] H18 (by decide) (by kernel_rfl) trivial fun _ _ H20 hb => ?_
 replace hS := hS.below hb
 clear H18 hb
 refine wl_end rfl ?_
 replace hS : SH M X w [eB b14 [vU y11.1.Kind, vS y11.1.Word, vI y11.1.Num, vU y11.1.Color.Red, vU y11.1.Color.Green, vU y11.1.Color.Blue, vU y11.1.Color.Alpha], gE1, Ent.tab 0 (Lib.pow10Tab.map fun z => Value.int .u64 z), gE5] _ := hS.sel [0, 2, 3, 4] rfl
 refine w_seq ?_
 refine s_reg [] [0, 5, 6, 7, 27] [(0, [], vI prop), (5, [], vB y3), (6, [], vP b14), (7, [], vI y11.2), (27, [], vB (y11.2 != 0))] [] H20 (by kernel_rfl) trivial fun _ _ H22 hb => ?_
 replace hS := hS.below hb
 clear H20 hb
 refine w_if H22 rfl (fun hc => ?c38) (fun hc => ?_)
 case c38 =>
  replace hm := bT hc hm
  obtain ⟨x23, hx23, hm⟩ := letE hm
  obtain ⟨x24, hx24, hm⟩ := letE hm
  refine s_reg [(vG [vU y11.1.Kind, vS y11.1.Word, vI y11.1.Num, vU y11.1.Color.Red, vU y11.1.Color.Green, vU y11.1.Color.Blue, vU y11.1.Color.Alpha])] [4] [(4, [], vB x24)] [fun wz => (y3 = true ∧ True → V.atN b14 0 [vU y11.1.Kind, vS y11.1.Word, vI y11.1.Num, vU y11.1.Color.Red, vU y11.1.Color.Green, vU y11.1.Color.Blue, vU y11.1.Color.Alpha] 0 wz)] H22 (by subst hx23 hx24; kernel_rfl) ⟨fun hg => (hS.bk 0 rfl).atD rfl, trivial⟩ fun _ _ H26 hb => ?_
  replace hS := hS.below hb
  clear H22 hb
  replace hS : SH M X w [gE1, Ent.tab 0 (Lib.pow10Tab.map fun z => Value.int .u64 z), gE5] _ := hS.sel [1, 2, 3] rfl
  refine w_ret ?_
  obtain rfl := someE hm
  exact retR1 H26 rfl rfl ⟨_, rfl, rfl, (hS.sel [] rfl)⟩
 replace hm := bF hc hm
 refine w_skip ?_
 obtain ⟨y27, hy27, hm⟩ := bindE hm
 refine s_reg [(vG [vU y11.1.Kind, vS y11.1.Word, vI y11.1.Num, vU y11.1.Color.Red, vU y11.1.Color.Green, vU y11.1.Color.Blue, vU y11.1.Color.Alpha]), (vW [vB y27.1, vI y27.2])] [0, 5, 6, 8, 9] [(0, [], vI prop), (5, [], vB y3), (6, [], vP b14), (8, [], vB y27.1), (9, [], vI y27.2)] [rN b14 0 [vU y11.1.Kind, vS y11.1.Word, vI y11.1.Num, vU y11.1.Color.Red, vU y11.1.Color.Green, vU y11.1.Color.Blue, vU y11.1.Color.Alpha], rB 24 [vI prop, vG [vU y11.1.Kind, vS y11.1.Word, vI y11.1.Num, vU y11.1.Color.Red, vU y11.1.Color.Green, vU y11.1.Color.Blue, vU y11.1.Color.Alpha]] (vW [vB y27.1, vI y27.2])] H22 (by kernel_rfl) ⟨((hS.bk 0 rfl).atD rfl), (props_Has_ok 64 _ _ _ hy27 _ (s0im s0nil (hS.im 1 rfl))), trivial⟩ fun _ _ H29 hb => ?_
 replace hS := hS.below hb
 clear H22 hb
 obtain ⟨y30, hy30, hm⟩ := bindE hm
 refine s_reg [(vG [vU y11.1.Kind, vS y11.1.Word, vI y11.1.Num, vU y11.1.Color.Red, vU y11.1.Color.Green, vU y11.1.Color.Blue, vU y11.1.Color.Alpha]), (vW [vS y30.1, vI y30.2])] [0, 5, 6, 8, 9, 10, 11] [(0, [], vI prop), (5, [], vB y3), (6, [], vP b14), (8, [], vB y27.1), (9, [], vI y27.2), (10, [], vS y30.1), (11, [], vI y30.2)] [rN b14 0 [vU y11.1.Kind, vS y11.1.Word, vI y11.1.Num, vU y11.1.Color.Red, vU y11.1.Color.Green, vU y11.1.Color.Blue, vU y11.1.Color.Alpha], rB 21 [vG [vU y11.1.Kind, vS y11.1.Word, vI y11.1.Num, vU y11.1.Color.Red, vU y11.1.Color.Green, vU y11.1.Color.Blue, vU y11.1.Color.Alpha]] (vW [vS y30.1, vI y30.2])] H29 (by kernel_rfl) ⟨((hS.bk 0 rfl).atD rfl), (parseval_Write_ok 300 _ _ hy30 _ (s0tab (s0im s0nil (hS.im 3 rfl)) (hS.at 2 rfl))), trivial⟩ fun _ _ H32 hb => ?_
 replace hS := hS.below hb
 clear H29 hb
 obtain ⟨x33, hx33, hm⟩ := letE hm
 obtain ⟨y34, hy34, hm⟩ := bindE hm
 obtain ⟨x35, hx35, hm⟩ := letE hm
 refine s_reg [(vG [vU y11.1.Kind, vS y11.1.Word, vI y11.1.Num, vU y11.1.Color.Red, vU y11.1.Color.Green, vU y11.1.Color.Blue, vU y11.1.Color.Alpha]), (vB y34)] [4] [(4, [], vB x35)] [fun wz => ((cond x33 (y30.2 == 0) false) = true ∧ True → V.atN b14 0 [vU y11.1.Kind, vS y11.1.Word, vI y11.1.Num, vU y11.1.Color.Red, vU y11.1.Color.Green, vU y11.1.Color.Blue, vU y11.1.Color.Alpha] 0 wz), fun wz => ((cond x33 (y30.2 == 0) false) = true ∧ True → RetB Tryz.prog 18 ⟨[vI prop, vS y30.1, vG [vU y11.1.Kind, vS y11.1.Word, vI y11.1.Num, vU y11.1.Color.Red, vU y11.1.Color.Green, vU y11.1.Color.Blue, vU y11.1.Color.Alpha]]⟩ (vB y34) wz)] H32 (by subst hx33 hx35; kernel_rfl) ⟨fun hg => (hS.bk 0 rfl).atD rfl, fun hg => law26_reads_ok 300 _ _ _ _ (bT (hg.1) hy34) _ (s0im s0nil (hS.im 1 rfl)), trivial⟩ fun _ _ H37 hb => ?_
 replace hS := hS.below hb
 clear H32 hb
 replace hS : SH M X w [gE1, Ent.tab 0 (Lib.pow10Tab.map fun z => Value.int .u64 z), gE5] _ := hS.sel [1, 2, 3] rfl
 refine w_ret ?_
 obtain rfl := someE hm
 exact retR1 H37 rfl rfl ⟨_, rfl, rfl, (hS.sel [] rfl)⟩
theorem law26_ParsevalKept_ok {g_l_ : Gh} (m : Nat) (prop : Int) (l_ : List TValue) (r : Bool) (hm : law26_ParsevalKept m prop l_ = some r) (w : World) (hL : S0 F0 [eI tyValue l_ g_l_, gE1, Ent.tab 0 (Lib.pow10Tab.map fun z => Value.int .u64 z), gE5] w ∧ fpl [eI tyValue l_ g_l_, gE1, Ent.tab 0 (Lib.pow10Tab.map fun z => Value.int .u64 z), gE5] = []) : RetB Tryz.prog 7 ⟨[vI prop, vL g_l_ l_]⟩ (vB r) w := retB_of hL (Tryz.call7 _) (fun w' h => law26_ParsevalKept_w F0 m   prop l_ r hm w' h)

end Go.Proofs.YtemchjneoalnoaaGreatDoor
