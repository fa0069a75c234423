/-
  What the Go functions compute, as Lean functions, and that a call returns just that. Printed by a program.
-/
import Derived.Test.YtemchjneoalnoaaGreatDoorRows
import Derived.Test.YtemchjneoalnoaaGreatDoorX
import Derived.Test.YtemchjneoalnoaaGreatDoorIF
import Derived.Test.YtemchjneoalnoaaGreatDoorMP
import Derived.Test.YtemchjneoalnoaaGreatDoorM
import Derived.Test.YtemchjneoalnoaaGreatDoorW26kb
set_option linter.unusedVariables false
set_option maxRecDepth 20000
set_option maxHeartbeats 4000000
namespace Go.Proofs.YtemchjneoalnoaaGreatDoor
open Go.V Go.RowKit

theorem props_Table_w  (M : Av) (m : Nat)  (r : List TProp) (hm : props_Table m = some r) (w : World) (hS : S0 M [gE1] w) : Calls Tryz.prog 40 ⟨[]⟩ w (fun e w' => ∃ v, e = .returned v ∧ ∃ (g901 : Gh), v = vL g901 r ∧ SH M (fpl [gE1]) w [eO 82 tyProp r g901] w') := by
 rw [props_Table] at hm
 have hS0 : SH M (fpl [gE1]) w [gE1] w := hS
 generalize hX : fpl [gE1] = X at hS0 ⊢
 clear hS hX
 have hS := hS0
 clear hS0
 refine calls_entryP Tryz.func40 rfl Tryz.ntmps40 rfl fun _ H => ?_
 refine s_reg [] [] [] [] H (by kernel_rfl) trivial fun _ _ H2 hb => ?_
 replace hS := hS.below hb
 clear H hb
 refine w_seq ?_
 refine wl_start ?_
 obtain ⟨y3, hy3, hm⟩ := letE hm
 refine wl_batch 0 2 [(vG [vU y3.Kind, vS y3.Word, vI y3.Num, vU y3.Color.Red, vU y3.Color.Green, vU y3.Color.Blue, vU y3.Color.Alpha])] [6, 7] [(6, [], vG [vU y3.Kind, vS y3.Word, vI y3.Num, vU y3.Color.Red, vU y3.Color.Green, vU y3.Color.Blue, vU y3.Color.Alpha]), (7, [], vG [vU 2, vN, vI 0, vU 0, vU 0, vU 0, vU 0])] [rB 58 [vS [97, 117, 116, 111]] (vG [vU y3.Kind, vS y3.Word, vI y3.Num, vU y3.Color.Red, vU y3.Color.Green, vU y3.Color.Blue, vU y3.Color.Alpha])] H2 (by decide) (by subst hy3; kernel_rfl) ⟨((by rw [hy3]; exact (props_word_ok _).b)), trivial⟩ fun _ _ H5 hb => ?_
 replace hS := hS.below hb
 clear H2 hb
 have hd := hS.hand [] [0] rfl rfl
 refine m_stp [1, 6, 7] [(6, [], vG [vU y3.Kind, vS y3.Word, vI y3.Num, vU y3.Color.Red, vU y3.Color.Green, vU y3.Color.Blue, vU y3.Color.Alpha]), (7, [], vG [vU 2, vN, vI 0, vU 0, vU 0, vU 0, vU 0])] H5 rfl rfl rfl rfl (o_alloc [vU 0, vN, vI 0, vU 0, vU 0, vU 0, vU 0] (z := vG [vU 0, vN, vI 0, vU 0, vU 0, vU 0, vU 0]) hd (by kernel_rfl) rfl) (fun _ => rfl) fun _ _ v H8 hq => ?_
 clear H5 hd
 obtain ⟨b6, rfl, hq⟩ := hq
 replace hS : SH M X w [eB b6 [vU 0, vN, vI 0, vU 0, vU 0, vU 0, vU 0], gE1] _ := hS.join [] [0] rfl rfl hq
 clear hq
 have hd := hS.hand [] [0, 1] rfl rfl
 refine m_stp [2, 1, 6, 7] [(1, [], vP b6), (6, [], vG [vU y3.Kind, vS y3.Word, vI y3.Num, vU y3.Color.Red, vU y3.Color.Green, vU y3.Color.Blue, vU y3.Color.Alpha]), (7, [], vG [vU 2, vN, vI 0, vU 0, vU 0, vU 0, vU 0])] H8 rfl rfl rfl rfl (o_alloc [vU 0, vN, vI 0, vU 0, vU 0, vU 0, vU 0] (z := vG [vU 0, vN, vI 0, vU 0, vU 0, vU 0, vU 0]) hd (by kernel_rfl) rfl) (fun _ => rfl) fun _ _ v H11 hq => ?_
 clear H8 hd
 obtain ⟨b9, rfl, hq⟩ := hq
 replace hS : SH M X w [eB b9 [vU 0, vN, vI 0, vU 0, vU 0, vU 0, vU 0], eB b6 [vU 0, vN, vI 0, vU 0, vU 0, vU 0, vU 0], gE1] _ := hS.join [] [0, 1] rfl rfl hq
 clear hq
 have hd := hS.hand [1] [0, 2] rfl rfl
 refine m_stp0 [1, 2, 7] [(1, [], vP b6), (2, [], vP b9), (7, [], vG [vU 2, vN, vI 0, vU 0, vU 0, vU 0, vU 0])] H11 rfl rfl rfl (o_store [vU y3.Kind, vS y3.Word, vI y3.Num, vU y3.Color.Red, vU y3.Color.Green, vU y3.Color.Blue, vU y3.Color.Alpha] H11 hd rfl rfl (by kernel_rfl) rfl rfl rfl) rfl fun _ _ H13 hq => ?_
 clear H11 hd
 obtain ⟨_, hq⟩ := hq
 replace hS : SH M X w [eB b6 [vU y3.Kind, vS y3.Word, vI y3.Num, vU y3.Color.Red, vU y3.Color.Green, vU y3.Color.Blue, vU y3.Color.Alpha], eB b9 [vU 0, vN, vI 0, vU 0, vU 0, vU 0, vU 0], gE1] _ := hS.join [1] [0, 2] rfl rfl hq
 clear hq
 have hd := hS.hand [1] [0, 2] rfl rfl
 refine m_stp0 [1, 2] [(1, [], vP b6), (2, [], vP b9)] H13 rfl rfl rfl (o_store [vU 2, vN, vI 0, vU 0, vU 0, vU 0, vU 0] H13 hd rfl rfl (by kernel_rfl) rfl rfl rfl) rfl fun _ _ H15 hq => ?_
 clear H13 hd
 obtain ⟨_, hq⟩ := hq
 replace hS : SH M X w [eB b9 [vU 2, vN, vI 0, vU 0, vU 0, vU 0, vU 0], eB b6 [vU y3.Kind, vS y3.Word, vI y3.Num, vU y3.Color.Red, vU y3.Color.Green, vU y3.Color.Blue, vU y3.Color.Alpha], gE1] _ := hS.join [1] [0, 2] rfl rfl hq
 clear hq
 refine wl_end rfl ?_
 obtain ⟨y17, hy17, hm⟩ := letE hm
 obtain ⟨y22, hy22, hm⟩ := letE hm
 obtain ⟨y27, hy27, hm⟩ := letE hm
 obtain ⟨y32, hy32, hm⟩ := letE hm
 obtain ⟨y37, hy37, hm⟩ := bindE hm
 obtain ⟨y42, hy42, hm⟩ := bindE hm
 obtain ⟨y48, hy48, hm⟩ := bindE hm
 obtain ⟨y54, hy54, hm⟩ := bindE hm
 refine s_drawS (base := [(1, [], vP b6), (2, [], vP b9)]) (L := [eB b9 [vU 2, vN, vI 0, vU 0, vU 0, vU 0, vU 0], eB b6 [vU y3.Kind, vS y3.Word, vI y3.Num, vU y3.Color.Red, vU y3.Color.Green, vU y3.Color.Blue, vU y3.Color.Alpha], gE1]) 17 3 (fun yg16 => [vG [vU 0, vU 0, vU 0, vU 255], vG [vU 7, vN, vI 0, vU 0, vU 0, vU 0, vU 255], vG [vS y17.Name, vB y17.Inherited, vU y17.Initial.Kind, vS y17.Initial.Word, vI y17.Initial.Num, vU y17.Initial.Color.Red, vU y17.Initial.Color.Green, vU y17.Initial.Color.Blue, vU y17.Initial.Color.Alpha, .slice (yg16 2 0).a y17.Words.length (yg16 2 0).c, .slice (yg16 2 1).a y17.Kinds.length (yg16 2 1).c, vB y17.Least], vG [vU 7, vN, vI 0, vU 0, vU 0, vU 0, vU 0], vG [vS y22.Name, vB y22.Inherited, vU y22.Initial.Kind, vS y22.Initial.Word, vI y22.Initial.Num, vU y22.Initial.Color.Red, vU y22.Initial.Color.Green, vU y22.Initial.Color.Blue, vU y22.Initial.Color.Alpha, .slice (yg16 4 0).a y22.Words.length (yg16 4 0).c, .slice (yg16 4 1).a y22.Kinds.length (yg16 4 1).c, vB y22.Least], vG [vU 8, vN, vI 0, vU 0, vU 0, vU 0, vU 0], vG [vS y27.Name, vB y27.Inherited, vU y27.Initial.Kind, vS y27.Initial.Word, vI y27.Initial.Num, vU y27.Initial.Color.Red, vU y27.Initial.Color.Green, vU y27.Initial.Color.Blue, vU y27.Initial.Color.Alpha, .slice (yg16 6 0).a y27.Words.length (yg16 6 0).c, .slice (yg16 6 1).a y27.Kinds.length (yg16 6 1).c, vB y27.Least], vG [vU 8, vN, vI 0, vU 0, vU 0, vU 0, vU 0], vG [vS y32.Name, vB y32.Inherited, vU y32.Initial.Kind, vS y32.Initial.Word, vI y32.Initial.Num, vU y32.Initial.Color.Red, vU y32.Initial.Color.Green, vU y32.Initial.Color.Blue, vU y32.Initial.Color.Alpha, .slice (yg16 8 0).a y32.Words.length (yg16 8 0).c, .slice (yg16 8 1).a y32.Kinds.length (yg16 8 1).c, vB y32.Least], vG [vS y37.Name, vB y37.Inherited, vU y37.Initial.Kind, vS y37.Initial.Word, vI y37.Initial.Num, vU y37.Initial.Color.Red, vU y37.Initial.Color.Green, vU y37.Initial.Color.Blue, vU y37.Initial.Color.Alpha, .slice (yg16 9 0).a y37.Words.length (yg16 9 0).c, .slice (yg16 9 1).a y37.Kinds.length (yg16 9 1).c, vB y37.Least], vG [vS y42.Name, vB y42.Inherited, vU y42.Initial.Kind, vS y42.Initial.Word, vI y42.Initial.Num, vU y42.Initial.Color.Red, vU y42.Initial.Color.Green, vU y42.Initial.Color.Blue, vU y42.Initial.Color.Alpha, .slice (yg16 10 0).a y42.Words.length (yg16 10 0).c, .slice (yg16 10 1).a y42.Kinds.length (yg16 10 1).c, vB y42.Least], vG [vU y3.Kind, vS y3.Word, vI y3.Num, vU y3.Color.Red, vU y3.Color.Green, vU y3.Color.Blue, vU y3.Color.Alpha], vG [vS y48.Name, vB y48.Inherited, vU y48.Initial.Kind, vS y48.Initial.Word, vI y48.Initial.Num, vU y48.Initial.Color.Red, vU y48.Initial.Color.Green, vU y48.Initial.Color.Blue, vU y48.Initial.Color.Alpha, .slice (yg16 12 0).a y48.Words.length (yg16 12 0).c, .slice (yg16 12 1).a y48.Kinds.length (yg16 12 1).c, vB y48.Least], vG [vU y3.Kind, vS y3.Word, vI y3.Num, vU y3.Color.Red, vU y3.Color.Green, vU y3.Color.Blue, vU y3.Color.Alpha], vG [vS y54.Name, vB y54.Inherited, vU y54.Initial.Kind, vS y54.Initial.Word, vI y54.Initial.Num, vU y54.Initial.Color.Red, vU y54.Initial.Color.Green, vU y54.Initial.Color.Blue, vU y54.Initial.Color.Alpha, .slice (yg16 14 0).a y54.Words.length (yg16 14 0).c, .slice (yg16 14 1).a y54.Kinds.length (yg16 14 1).c, vB y54.Least], .slice (yg16 15 0).a 8 (yg16 15 0).c, .slice (yg16 15 0).a 8 (yg16 15 0).c]) (fun yg16 => [[], [], [eO 9 tS y17.Words (yg16 2 0), eO 5 (tI .u8) y17.Kinds (yg16 2 1)], [], [eO 9 tS y22.Words (yg16 4 0), eO 5 (tI .u8) y22.Kinds (yg16 4 1)], [], [eO 9 tS y27.Words (yg16 6 0), eO 5 (tI .u8) y27.Kinds (yg16 6 1)], [], [eO 9 tS y32.Words (yg16 8 0), eO 5 (tI .u8) y32.Kinds (yg16 8 1)], [eO 9 tS y37.Words (yg16 9 0), eO 5 (tI .u8) y37.Kinds (yg16 9 1)], [eO 9 tS y42.Words (yg16 10 0), eO 5 (tI .u8) y42.Kinds (yg16 10 1)], [], [eO 9 tS y48.Words (yg16 12 0), eO 5 (tI .u8) y48.Kinds (yg16 12 1), eI (tI .u8) ([] : List Int) (.nil)], [], [eO 9 tS y54.Words (yg16 14 0), eO 5 (tI .u8) y54.Kinds (yg16 14 1), eI (tI .u8) ([] : List Int) (.nil)], [eO 82 tyProp ([y17, y22, y27, y32, y37, y42, y48, y54] : List TProp) (yg16 15 0), eI (tI .u8) y54.Kinds (yg16 14 1), eI tS y54.Words (yg16 14 0), eI (tI .u8) y48.Kinds (yg16 12 1), eI tS y48.Words (yg16 12 0), eI (tI .u8) y42.Kinds (yg16 10 1), eI tS y42.Words (yg16 10 0), eI (tI .u8) y37.Kinds (yg16 9 1), eI tS y37.Words (yg16 9 0), eI (tI .u8) y32.Kinds (yg16 8 1), eI tS y32.Words (yg16 8 0), eI (tI .u8) y27.Kinds (yg16 6 1), eI tS y27.Words (yg16 6 0), eI (tI .u8) y22.Kinds (yg16 4 1), eI tS y22.Words (yg16 4 0), eI (tI .u8) y17.Kinds (yg16 2 1), eI tS y17.Words (yg16 2 0), eI (tI .u8) ([] : List Int) (.nil), eI (tI .u8) ([] : List Int) (.nil)], []]) [[], [], [], [], [], [], [], [], [], [19], [19], [18], [19], [18], [19], [2, 4, 6, 8, 9, 10, 12, 14], [15]] [[], [], [], [], [], [], [], [], [], [], [], [], [], [], [], [2, 4, 6, 8, 9, 10, 12, 14], []] [[0], [0, 1], [0, 1, 2], [3], [3, 4], [5], [5, 6], [7], [7, 8], [9], [10], [11], [11, 12], [13], [13, 14], [0, 1, 2, 3, 4, 5, 6, 7, 8, 9, 10, 11, 12, 13, 14, 15], [0, 1, 2, 3, 4, 5, 6, 7, 8, 9, 10, 11, 12, 13, 14, 15, 16]] [] (FrG.keep (ks := [1, 2]) H15 (by kernel_rfl)) (fun _ _ h => by cases h) (by kernel_rfl) hS (by kernel_rfl) rfl rfl (by kernel_rfl) (by kernel_rfl) (by kernel_rfl) (gd_none (by kernel_rfl) _ _) ?hloc_yg16 ?hstep_yg16 fun _ _ yg16 H62 hv hS => ?hK_yg16
 case hloc_yg16 => exact ⟨(fun _ _ _ _ => ⟨rfl, rfl⟩), (fun _ _ _ _ => ⟨rfl, rfl⟩), (fun _ i g hi => lcG [2] (fun yg16 => (vG [vS y17.Name, vB y17.Inherited, vU y17.Initial.Kind, vS y17.Initial.Word, vI y17.Initial.Num, vU y17.Initial.Color.Red, vU y17.Initial.Color.Green, vU y17.Initial.Color.Blue, vU y17.Initial.Color.Alpha, .slice (yg16 2 0).a y17.Words.length (yg16 2 0).c, .slice (yg16 2 1).a y17.Kinds.length (yg16 2 1).c, vB y17.Least], [eO 9 tS y17.Words (yg16 2 0), eO 5 (tI .u8) y17.Kinds (yg16 2 1)])) hi rfl), (fun _ _ _ _ => ⟨rfl, rfl⟩), (fun _ i g hi => lcG [4] (fun yg16 => (vG [vS y22.Name, vB y22.Inherited, vU y22.Initial.Kind, vS y22.Initial.Word, vI y22.Initial.Num, vU y22.Initial.Color.Red, vU y22.Initial.Color.Green, vU y22.Initial.Color.Blue, vU y22.Initial.Color.Alpha, .slice (yg16 4 0).a y22.Words.length (yg16 4 0).c, .slice (yg16 4 1).a y22.Kinds.length (yg16 4 1).c, vB y22.Least], [eO 9 tS y22.Words (yg16 4 0), eO 5 (tI .u8) y22.Kinds (yg16 4 1)])) hi rfl), (fun _ _ _ _ => ⟨rfl, rfl⟩), (fun _ i g hi => lcG [6] (fun yg16 => (vG [vS y27.Name, vB y27.Inherited, vU y27.Initial.Kind, vS y27.Initial.Word, vI y27.Initial.Num, vU y27.Initial.Color.Red, vU y27.Initial.Color.Green, vU y27.Initial.Color.Blue, vU y27.Initial.Color.Alpha, .slice (yg16 6 0).a y27.Words.length (yg16 6 0).c, .slice (yg16 6 1).a y27.Kinds.length (yg16 6 1).c, vB y27.Least], [eO 9 tS y27.Words (yg16 6 0), eO 5 (tI .u8) y27.Kinds (yg16 6 1)])) hi rfl), (fun _ _ _ _ => ⟨rfl, rfl⟩), (fun _ i g hi => lcG [8] (fun yg16 => (vG [vS y32.Name, vB y32.Inherited, vU y32.Initial.Kind, vS y32.Initial.Word, vI y32.Initial.Num, vU y32.Initial.Color.Red, vU y32.Initial.Color.Green, vU y32.Initial.Color.Blue, vU y32.Initial.Color.Alpha, .slice (yg16 8 0).a y32.Words.length (yg16 8 0).c, .slice (yg16 8 1).a y32.Kinds.length (yg16 8 1).c, vB y32.Least], [eO 9 tS y32.Words (yg16 8 0), eO 5 (tI .u8) y32.Kinds (yg16 8 1)])) hi rfl), (fun _ i g hi => lcG [9] (fun yg16 => (vG [vS y37.Name, vB y37.Inherited, vU y37.Initial.Kind, vS y37.Initial.Word, vI y37.Initial.Num, vU y37.Initial.Color.Red, vU y37.Initial.Color.Green, vU y37.Initial.Color.Blue, vU y37.Initial.Color.Alpha, .slice (yg16 9 0).a y37.Words.length (yg16 9 0).c, .slice (yg16 9 1).a y37.Kinds.length (yg16 9 1).c, vB y37.Least], [eO 9 tS y37.Words (yg16 9 0), eO 5 (tI .u8) y37.Kinds (yg16 9 1)])) hi rfl), (fun _ i g hi => lcG [10] (fun yg16 => (vG [vS y42.Name, vB y42.Inherited, vU y42.Initial.Kind, vS y42.Initial.Word, vI y42.Initial.Num, vU y42.Initial.Color.Red, vU y42.Initial.Color.Green, vU y42.Initial.Color.Blue, vU y42.Initial.Color.Alpha, .slice (yg16 10 0).a y42.Words.length (yg16 10 0).c, .slice (yg16 10 1).a y42.Kinds.length (yg16 10 1).c, vB y42.Least], [eO 9 tS y42.Words (yg16 10 0), eO 5 (tI .u8) y42.Kinds (yg16 10 1)])) hi rfl), (fun _ _ _ _ => ⟨rfl, rfl⟩), (fun _ i g hi => lcG [12] (fun yg16 => (vG [vS y48.Name, vB y48.Inherited, vU y48.Initial.Kind, vS y48.Initial.Word, vI y48.Initial.Num, vU y48.Initial.Color.Red, vU y48.Initial.Color.Green, vU y48.Initial.Color.Blue, vU y48.Initial.Color.Alpha, .slice (yg16 12 0).a y48.Words.length (yg16 12 0).c, .slice (yg16 12 1).a y48.Kinds.length (yg16 12 1).c, vB y48.Least], [eO 9 tS y48.Words (yg16 12 0), eO 5 (tI .u8) y48.Kinds (yg16 12 1), eI (tI .u8) ([] : List Int) (.nil)])) hi rfl), (fun _ _ _ _ => ⟨rfl, rfl⟩), (fun _ i g hi => lcG [14] (fun yg16 => (vG [vS y54.Name, vB y54.Inherited, vU y54.Initial.Kind, vS y54.Initial.Word, vI y54.Initial.Num, vU y54.Initial.Color.Red, vU y54.Initial.Color.Green, vU y54.Initial.Color.Blue, vU y54.Initial.Color.Alpha, .slice (yg16 14 0).a y54.Words.length (yg16 14 0).c, .slice (yg16 14 1).a y54.Kinds.length (yg16 14 1).c, vB y54.Least], [eO 9 tS y54.Words (yg16 14 0), eO 5 (tI .u8) y54.Kinds (yg16 14 1), eI (tI .u8) ([] : List Int) (.nil)])) hi rfl), (fun _ i g hi => lcG [2, 4, 6, 8, 9, 10, 12, 14, 15] (fun yg16 => (.slice (yg16 15 0).a 8 (yg16 15 0).c, [eO 82 tyProp ([y17, y22, y27, y32, y37, y42, y48, y54] : List TProp) (yg16 15 0), eI (tI .u8) y54.Kinds (yg16 14 1), eI tS y54.Words (yg16 14 0), eI (tI .u8) y48.Kinds (yg16 12 1), eI tS y48.Words (yg16 12 0), eI (tI .u8) y42.Kinds (yg16 10 1), eI tS y42.Words (yg16 10 0), eI (tI .u8) y37.Kinds (yg16 9 1), eI tS y37.Words (yg16 9 0), eI (tI .u8) y32.Kinds (yg16 8 1), eI tS y32.Words (yg16 8 0), eI (tI .u8) y27.Kinds (yg16 6 1), eI tS y27.Words (yg16 6 0), eI (tI .u8) y22.Kinds (yg16 4 1), eI tS y22.Words (yg16 4 0), eI (tI .u8) y17.Kinds (yg16 2 1), eI tS y17.Words (yg16 2 0), eI (tI .u8) ([] : List Int) (.nil), eI (tI .u8) ([] : List Int) (.nil)])) hi rfl), (fun _ i g hi => lcG [15] (fun yg16 => (.slice (yg16 15 0).a 8 (yg16 15 0).c, [])) hi rfl), trivial⟩
 case hstep_yg16 =>
  refine ⟨?_, ?_, ?_, ?_, ?_, ?_, ?_, ?_, ?_, ?_, ?_, ?_, ?_, ?_, ?_, ?_, ?_, trivial⟩
  ·intro o ho a w yg16 M Hb hv hO hS
   obtain rfl := Option.some.inj ho
   exact Stp.mono (o_evs [] (vG [vU 0, vU 0, vU 0, vU 255]) none [] Hb rfl (by kernel_rfl) (fun q e => by cases e)) fun _ _ hq => ⟨gL [], fun _ _ => hq.1, (hS.below hq.2.below).sel [] rfl⟩
  ·intro o ho a w yg16 M Hb hv hO hS
   obtain rfl := Option.some.inj ho
   exact Stp.mono (o_evs [] (vG [vU 7, vN, vI 0, vU 0, vU 0, vU 0, vU 255]) none [] ((Hb).add (hv 0 (by decide) (by decide) 8 rfl)) rfl (by kernel_rfl) (fun q e => by cases e)) fun _ _ hq => ⟨gL [], fun _ _ => hq.1, (hS.below hq.2.below).sel [] rfl⟩
  ·intro o ho a w yg16 M Hb hv hO hS0
   obtain rfl := Option.some.inj ho
   have H : Fr 57 ([(9, [], vG [vU 7, vN, vI 0, vU 0, vU 0, vU 0, vU 255])] ++ [(1, [], vP b6), (2, [], vP b9)]) _ := (Hb).add (hv 1 (by decide) (by decide) 9 rfl)
   obtain ⟨X, hX⟩ : ∃ X, X = fpl [] := ⟨_, rfl⟩
   have hS : SH M X w [] w := by rw [hX]; exact hS0
   have hd := hS.hand [] [] rfl rfl
   refine Stp.mono (o_callx H rfl rfl (props_color_ok _ _ _ _ hy17.symm _ _ hd)) ?_
   rintro v w2 hq
   obtain ⟨g18, g20, rfl, hq⟩ := hq
   replace hS : SH M X w [eO 9 tS y17.Words g18, eO 5 (tI .u8) y17.Kinds g20] _ := hS.join [] [] rfl rfl hq
   clear hq
   rw [hX] at hS
   exact ⟨gL [g18, g20], fun _ _ => rfl, hS.sel [0, 1] rfl⟩
  ·intro o ho a w yg16 M Hb hv hO hS
   obtain rfl := Option.some.inj ho
   exact Stp.mono (o_evs [] (vG [vU 7, vN, vI 0, vU 0, vU 0, vU 0, vU 0]) none [] Hb rfl (by kernel_rfl) (fun q e => by cases e)) fun _ _ hq => ⟨gL [], fun _ _ => hq.1, (hS.below hq.2.below).sel [] rfl⟩
  ·intro o ho a w yg16 M Hb hv hO hS0
   obtain rfl := Option.some.inj ho
   have H : Fr 57 ([(11, [], vG [vU 7, vN, vI 0, vU 0, vU 0, vU 0, vU 0])] ++ [(1, [], vP b6), (2, [], vP b9)]) _ := (Hb).add (hv 3 (by decide) (by decide) 11 rfl)
   obtain ⟨X, hX⟩ : ∃ X, X = fpl [] := ⟨_, rfl⟩
   have hS : SH M X w [] w := by rw [hX]; exact hS0
   have hd := hS.hand [] [] rfl rfl
   refine Stp.mono (o_callx H rfl rfl (props_color_ok _ _ _ _ hy22.symm _ _ hd)) ?_
   rintro v w2 hq
   obtain ⟨g23, g25, rfl, hq⟩ := hq
   replace hS : SH M X w [eO 9 tS y22.Words g23, eO 5 (tI .u8) y22.Kinds g25] _ := hS.join [] [] rfl rfl hq
   clear hq
   rw [hX] at hS
   exact ⟨gL [g23, g25], fun _ _ => rfl, hS.sel [0, 1] rfl⟩
  ·intro o ho a w yg16 M Hb hv hO hS
   obtain rfl := Option.some.inj ho
   exact Stp.mono (o_evs [] (vG [vU 8, vN, vI 0, vU 0, vU 0, vU 0, vU 0]) none [] Hb rfl (by kernel_rfl) (fun q e => by cases e)) fun _ _ hq => ⟨gL [], fun _ _ => hq.1, (hS.below hq.2.below).sel [] rfl⟩
  ·intro o ho a w yg16 M Hb hv hO hS0
   obtain rfl := Option.some.inj ho
   have H : Fr 57 ([(13, [], vG [vU 8, vN, vI 0, vU 0, vU 0, vU 0, vU 0])] ++ [(1, [], vP b6), (2, [], vP b9)]) _ := (Hb).add (hv 5 (by decide) (by decide) 13 rfl)
   obtain ⟨X, hX⟩ : ∃ X, X = fpl [] := ⟨_, rfl⟩
   have hS : SH M X w [] w := by rw [hX]; exact hS0
   have hd := hS.hand [] [] rfl rfl
   refine Stp.mono (o_callx H rfl rfl (props_color_ok _ _ _ _ hy27.symm _ _ hd)) ?_
   rintro v w2 hq
   obtain ⟨g28, g30, rfl, hq⟩ := hq
   replace hS : SH M X w [eO 9 tS y27.Words g28, eO 5 (tI .u8) y27.Kinds g30] _ := hS.join [] [] rfl rfl hq
   clear hq
   rw [hX] at hS
   exact ⟨gL [g28, g30], fun _ _ => rfl, hS.sel [0, 1] rfl⟩
  ·intro o ho a w yg16 M Hb hv hO hS
   obtain rfl := Option.some.inj ho
   exact Stp.mono (o_evs [] (vG [vU 8, vN, vI 0, vU 0, vU 0, vU 0, vU 0]) none [] Hb rfl (by kernel_rfl) (fun q e => by cases e)) fun _ _ hq => ⟨gL [], fun _ _ => hq.1, (hS.below hq.2.below).sel [] rfl⟩
  ·intro o ho a w yg16 M Hb hv hO hS0
   obtain rfl := Option.some.inj ho
   have H : Fr 57 ([(15, [], vG [vU 8, vN, vI 0, vU 0, vU 0, vU 0, vU 0])] ++ [(1, [], vP b6), (2, [], vP b9)]) _ := (Hb).add (hv 7 (by decide) (by decide) 15 rfl)
   obtain ⟨X, hX⟩ : ∃ X, X = fpl [] := ⟨_, rfl⟩
   have hS : SH M X w [] w := by rw [hX]; exact hS0
   have hd := hS.hand [] [] rfl rfl
   refine Stp.mono (o_callx H rfl rfl (props_color_ok _ _ _ _ hy32.symm _ _ hd)) ?_
   rintro v w2 hq
   obtain ⟨g33, g35, rfl, hq⟩ := hq
   replace hS : SH M X w [eO 9 tS y32.Words g33, eO 5 (tI .u8) y32.Kinds g35] _ := hS.join [] [] rfl rfl hq
   clear hq
   rw [hX] at hS
   exact ⟨gL [g33, g35], fun _ _ => rfl, hS.sel [0, 1] rfl⟩
  ·intro o ho a w yg16 M Hb hv hO hS0
   obtain rfl := Option.some.inj ho
   have H : Fr 57 ([] ++ [(1, [], vP b6), (2, [], vP b9)]) _ := Hb
   obtain ⟨X, hX⟩ : ∃ X, X = fpl [gE1] := ⟨_, rfl⟩
   have hS : SH M X w [gE1] w := by rw [hX]; exact hS0
   have hd := hS.hand [0] [0] rfl rfl
   refine Stp.mono (o_callx H rfl rfl (props_words_ok m _ _ _ _ _ hy37 _ _ hd)) ?_
   rintro v w2 hq
   obtain ⟨g38, g40, rfl, hq⟩ := hq
   replace hS : SH M X w [eO 9 tS y37.Words g38, eO 5 (tI .u8) y37.Kinds g40, gE1] _ := hS.join [0] [0] rfl rfl hq
   clear hq
   rw [hX] at hS
   exact ⟨gL [g38, g40], fun _ _ => rfl, hS.sel [0, 1, 2] rfl⟩
  ·intro o ho a w yg16 M Hb hv hO hS0
   obtain rfl := Option.some.inj ho
   have H : Fr 57 ([] ++ [(1, [], vP b6), (2, [], vP b9)]) _ := Hb
   obtain ⟨X, hX⟩ : ∃ X, X = fpl [gE1] := ⟨_, rfl⟩
   have hS : SH M X w [gE1] w := by rw [hX]; exact hS0
   have hd := hS.hand [0] [0] rfl rfl
   refine Stp.mono (o_callx H rfl rfl (props_words_ok m _ _ _ _ _ hy42 _ _ hd)) ?_
   rintro v w2 hq
   obtain ⟨g43, g45, rfl, hq⟩ := hq
   replace hS : SH M X w [eO 9 tS y42.Words g43, eO 5 (tI .u8) y42.Kinds g45, gE1] _ := hS.join [0] [0] rfl rfl hq
   clear hq
   rw [hX] at hS
   exact ⟨gL [g43, g45], fun _ _ => rfl, hS.sel [0, 1, 2] rfl⟩
  ·intro o ho a w yg16 M Hb hv hO hS
   obtain rfl := Option.some.inj ho
   exact Stp.mono (o_evs [(vG [vU y3.Kind, vS y3.Word, vI y3.Num, vU y3.Color.Red, vU y3.Color.Green, vU y3.Color.Blue, vU y3.Color.Alpha])] (vG [vU y3.Kind, vS y3.Word, vI y3.Num, vU y3.Color.Red, vU y3.Color.Green, vU y3.Color.Blue, vU y3.Color.Alpha]) (some (rN b6 0 [vU y3.Kind, vS y3.Word, vI y3.Num, vU y3.Color.Red, vU y3.Color.Green, vU y3.Color.Blue, vU y3.Color.Alpha])) [] Hb rfl (by kernel_rfl) (fun q e => by cases e; exact ((hS.bk 0 rfl).atD rfl))) fun _ _ hq => ⟨gL [], fun _ _ => hq.1, (hS.below hq.2.below).sel [0] rfl⟩
  ·intro o ho a w yg16 M Hb hv hO hS0
   obtain rfl := Option.some.inj ho
   have H : Fr 57 ([(19, [], vG [vU y3.Kind, vS y3.Word, vI y3.Num, vU y3.Color.Red, vU y3.Color.Green, vU y3.Color.Blue, vU y3.Color.Alpha])] ++ [(1, [], vP b6), (2, [], vP b9)]) _ := (Hb).add (hv 11 (by decide) (by decide) 19 rfl)
   obtain ⟨X, hX⟩ : ∃ X, X = fpl [gE1] := ⟨_, rfl⟩
   have hS : SH M X w [gE1] w := by rw [hX]; exact hS0
   replace hS : SH M X w [eO 5 (tI .u8) ([] : List Int) (.nil), gE1] _ := hS.addNil 5 (tI .u8)
   replace hS : SH M X w [eI (tI .u8) ([] : List Int) (.nil), gE1] _ := SH.frz1 (hS.sel [0, 1] rfl)
   have hd := hS.hand [0, 1] [0, 1] rfl rfl
   refine Stp.mono (o_callx H rfl rfl (props_length_ok (g_more := Gh.nil) m _ _ _ _ _ _ _ hy48 _ _ hd)) ?_
   rintro v w2 hq
   obtain ⟨g49, g51, rfl, hq⟩ := hq
   replace hS : SH M X w [eO 9 tS y48.Words g49, eO 5 (tI .u8) y48.Kinds g51, eI (tI .u8) ([] : List Int) (.nil), gE1] _ := hS.join [0, 1] [0, 1] rfl rfl hq
   clear hq
   rw [hX] at hS
   exact ⟨gL [g49, g51], fun _ _ => rfl, hS.sel [0, 1, 2, 3] rfl⟩
  ·intro o ho a w yg16 M Hb hv hO hS
   obtain rfl := Option.some.inj ho
   exact Stp.mono (o_evs [(vG [vU y3.Kind, vS y3.Word, vI y3.Num, vU y3.Color.Red, vU y3.Color.Green, vU y3.Color.Blue, vU y3.Color.Alpha])] (vG [vU y3.Kind, vS y3.Word, vI y3.Num, vU y3.Color.Red, vU y3.Color.Green, vU y3.Color.Blue, vU y3.Color.Alpha]) (some (rN b6 0 [vU y3.Kind, vS y3.Word, vI y3.Num, vU y3.Color.Red, vU y3.Color.Green, vU y3.Color.Blue, vU y3.Color.Alpha])) [] Hb rfl (by kernel_rfl) (fun q e => by cases e; exact ((hS.bk 0 rfl).atD rfl))) fun _ _ hq => ⟨gL [], fun _ _ => hq.1, (hS.below hq.2.below).sel [0] rfl⟩
  ·intro o ho a w yg16 M Hb hv hO hS0
   obtain rfl := Option.some.inj ho
   have H : Fr 57 ([(21, [], vG [vU y3.Kind, vS y3.Word, vI y3.Num, vU y3.Color.Red, vU y3.Color.Green, vU y3.Color.Blue, vU y3.Color.Alpha])] ++ [(1, [], vP b6), (2, [], vP b9)]) _ := (Hb).add (hv 13 (by decide) (by decide) 21 rfl)
   obtain ⟨X, hX⟩ : ∃ X, X = fpl [gE1] := ⟨_, rfl⟩
   have hS : SH M X w [gE1] w := by rw [hX]; exact hS0
   replace hS : SH M X w [eO 5 (tI .u8) ([] : List Int) (.nil), gE1] _ := hS.addNil 5 (tI .u8)
   replace hS : SH M X w [eI (tI .u8) ([] : List Int) (.nil), gE1] _ := SH.frz1 (hS.sel [0, 1] rfl)
   have hd := hS.hand [0, 1] [0, 1] rfl rfl
   refine Stp.mono (o_callx H rfl rfl (props_length_ok (g_more := Gh.nil) m _ _ _ _ _ _ _ hy54 _ _ hd)) ?_
   rintro v w2 hq
   obtain ⟨g55, g57, rfl, hq⟩ := hq
   replace hS : SH M X w [eO 9 tS y54.Words g55, eO 5 (tI .u8) y54.Kinds g57, eI (tI .u8) ([] : List Int) (.nil), gE1] _ := hS.join [0, 1] [0, 1] rfl rfl hq
   clear hq
   rw [hX] at hS
   exact ⟨gL [g55, g57], fun _ _ => rfl, hS.sel [0, 1, 2, 3] rfl⟩
  ·intro o ho a w yg16 M Hb hv hO hS0
   obtain rfl := Option.some.inj ho
   have H : Fr 57 ([(22, [], vG [vS y54.Name, vB y54.Inherited, vU y54.Initial.Kind, vS y54.Initial.Word, vI y54.Initial.Num, vU y54.Initial.Color.Red, vU y54.Initial.Color.Green, vU y54.Initial.Color.Blue, vU y54.Initial.Color.Alpha, .slice (yg16 14 0).a y54.Words.length (yg16 14 0).c, .slice (yg16 14 1).a y54.Kinds.length (yg16 14 1).c, vB y54.Least]), (20, [], vG [vS y48.Name, vB y48.Inherited, vU y48.Initial.Kind, vS y48.Initial.Word, vI y48.Initial.Num, vU y48.Initial.Color.Red, vU y48.Initial.Color.Green, vU y48.Initial.Color.Blue, vU y48.Initial.Color.Alpha, .slice (yg16 12 0).a y48.Words.length (yg16 12 0).c, .slice (yg16 12 1).a y48.Kinds.length (yg16 12 1).c, vB y48.Least]), (18, [], vG [vS y42.Name, vB y42.Inherited, vU y42.Initial.Kind, vS y42.Initial.Word, vI y42.Initial.Num, vU y42.Initial.Color.Red, vU y42.Initial.Color.Green, vU y42.Initial.Color.Blue, vU y42.Initial.Color.Alpha, .slice (yg16 10 0).a y42.Words.length (yg16 10 0).c, .slice (yg16 10 1).a y42.Kinds.length (yg16 10 1).c, vB y42.Least]), (17, [], vG [vS y37.Name, vB y37.Inherited, vU y37.Initial.Kind, vS y37.Initial.Word, vI y37.Initial.Num, vU y37.Initial.Color.Red, vU y37.Initial.Color.Green, vU y37.Initial.Color.Blue, vU y37.Initial.Color.Alpha, .slice (yg16 9 0).a y37.Words.length (yg16 9 0).c, .slice (yg16 9 1).a y37.Kinds.length (yg16 9 1).c, vB y37.Least]), (16, [], vG [vS y32.Name, vB y32.Inherited, vU y32.Initial.Kind, vS y32.Initial.Word, vI y32.Initial.Num, vU y32.Initial.Color.Red, vU y32.Initial.Color.Green, vU y32.Initial.Color.Blue, vU y32.Initial.Color.Alpha, .slice (yg16 8 0).a y32.Words.length (yg16 8 0).c, .slice (yg16 8 1).a y32.Kinds.length (yg16 8 1).c, vB y32.Least]), (14, [], vG [vS y27.Name, vB y27.Inherited, vU y27.Initial.Kind, vS y27.Initial.Word, vI y27.Initial.Num, vU y27.Initial.Color.Red, vU y27.Initial.Color.Green, vU y27.Initial.Color.Blue, vU y27.Initial.Color.Alpha, .slice (yg16 6 0).a y27.Words.length (yg16 6 0).c, .slice (yg16 6 1).a y27.Kinds.length (yg16 6 1).c, vB y27.Least]), (12, [], vG [vS y22.Name, vB y22.Inherited, vU y22.Initial.Kind, vS y22.Initial.Word, vI y22.Initial.Num, vU y22.Initial.Color.Red, vU y22.Initial.Color.Green, vU y22.Initial.Color.Blue, vU y22.Initial.Color.Alpha, .slice (yg16 4 0).a y22.Words.length (yg16 4 0).c, .slice (yg16 4 1).a y22.Kinds.length (yg16 4 1).c, vB y22.Least]), (10, [], vG [vS y17.Name, vB y17.Inherited, vU y17.Initial.Kind, vS y17.Initial.Word, vI y17.Initial.Num, vU y17.Initial.Color.Red, vU y17.Initial.Color.Green, vU y17.Initial.Color.Blue, vU y17.Initial.Color.Alpha, .slice (yg16 2 0).a y17.Words.length (yg16 2 0).c, .slice (yg16 2 1).a y17.Kinds.length (yg16 2 1).c, vB y17.Least])] ++ [(1, [], vP b6), (2, [], vP b9)]) _ := ((((((((Hb).add (hv 2 (by decide) (by decide) 10 rfl)).add (hv 4 (by decide) (by decide) 12 rfl)).add (hv 6 (by decide) (by decide) 14 rfl)).add (hv 8 (by decide) (by decide) 16 rfl)).add (hv 9 (by decide) (by decide) 17 rfl)).add (hv 10 (by decide) (by decide) 18 rfl)).add (hv 12 (by decide) (by decide) 20 rfl)).add (hv 14 (by decide) (by decide) 22 rfl)
   obtain ⟨X, hX⟩ : ∃ X, X = fpl [eO 9 tS y17.Words (yg16 2 0), eO 5 (tI .u8) y17.Kinds (yg16 2 1), eO 9 tS y22.Words (yg16 4 0), eO 5 (tI .u8) y22.Kinds (yg16 4 1), eO 9 tS y27.Words (yg16 6 0), eO 5 (tI .u8) y27.Kinds (yg16 6 1), eO 9 tS y32.Words (yg16 8 0), eO 5 (tI .u8) y32.Kinds (yg16 8 1), eO 9 tS y37.Words (yg16 9 0), eO 5 (tI .u8) y37.Kinds (yg16 9 1), eO 9 tS y42.Words (yg16 10 0), eO 5 (tI .u8) y42.Kinds (yg16 10 1), eO 9 tS y48.Words (yg16 12 0), eO 5 (tI .u8) y48.Kinds (yg16 12 1), eI (tI .u8) ([] : List Int) (.nil), eO 9 tS y54.Words (yg16 14 0), eO 5 (tI .u8) y54.Kinds (yg16 14 1), eI (tI .u8) ([] : List Int) (.nil)] := ⟨_, rfl⟩
   have hS : SH M X w [eO 9 tS y17.Words (yg16 2 0), eO 5 (tI .u8) y17.Kinds (yg16 2 1), eO 9 tS y22.Words (yg16 4 0), eO 5 (tI .u8) y22.Kinds (yg16 4 1), eO 9 tS y27.Words (yg16 6 0), eO 5 (tI .u8) y27.Kinds (yg16 6 1), eO 9 tS y32.Words (yg16 8 0), eO 5 (tI .u8) y32.Kinds (yg16 8 1), eO 9 tS y37.Words (yg16 9 0), eO 5 (tI .u8) y37.Kinds (yg16 9 1), eO 9 tS y42.Words (yg16 10 0), eO 5 (tI .u8) y42.Kinds (yg16 10 1), eO 9 tS y48.Words (yg16 12 0), eO 5 (tI .u8) y48.Kinds (yg16 12 1), eI (tI .u8) ([] : List Int) (.nil), eO 9 tS y54.Words (yg16 14 0), eO 5 (tI .u8) y54.Kinds (yg16 14 1), eI (tI .u8) ([] : List Int) (.nil)] w := by rw [hX]; exact hS0
   replace hS : SH M X w [eI tS y17.Words (yg16 2 0), eO 5 (tI .u8) y17.Kinds (yg16 2 1), eO 9 tS y22.Words (yg16 4 0), eO 5 (tI .u8) y22.Kinds (yg16 4 1), eO 9 tS y27.Words (yg16 6 0), eO 5 (tI .u8) y27.Kinds (yg16 6 1), eO 9 tS y32.Words (yg16 8 0), eO 5 (tI .u8) y32.Kinds (yg16 8 1), eO 9 tS y37.Words (yg16 9 0), eO 5 (tI .u8) y37.Kinds (yg16 9 1), eO 9 tS y42.Words (yg16 10 0), eO 5 (tI .u8) y42.Kinds (yg16 10 1), eO 9 tS y48.Words (yg16 12 0), eO 5 (tI .u8) y48.Kinds (yg16 12 1), eI (tI .u8) ([] : List Int) (.nil), eO 9 tS y54.Words (yg16 14 0), eO 5 (tI .u8) y54.Kinds (yg16 14 1), eI (tI .u8) ([] : List Int) (.nil)] _ := SH.frz1 (hS.sel [0, 1, 2, 3, 4, 5, 6, 7, 8, 9, 10, 11, 12, 13, 14, 15, 16, 17] rfl)
   replace hS : SH M X w [eI (tI .u8) y17.Kinds (yg16 2 1), eI tS y17.Words (yg16 2 0), eO 9 tS y22.Words (yg16 4 0), eO 5 (tI .u8) y22.Kinds (yg16 4 1), eO 9 tS y27.Words (yg16 6 0), eO 5 (tI .u8) y27.Kinds (yg16 6 1), eO 9 tS y32.Words (yg16 8 0), eO 5 (tI .u8) y32.Kinds (yg16 8 1), eO 9 tS y37.Words (yg16 9 0), eO 5 (tI .u8) y37.Kinds (yg16 9 1), eO 9 tS y42.Words (yg16 10 0), eO 5 (tI .u8) y42.Kinds (yg16 10 1), eO 9 tS y48.Words (yg16 12 0), eO 5 (tI .u8) y48.Kinds (yg16 12 1), eI (tI .u8) ([] : List Int) (.nil), eO 9 tS y54.Words (yg16 14 0), eO 5 (tI .u8) y54.Kinds (yg16 14 1), eI (tI .u8) ([] : List Int) (.nil)] _ := SH.frz1 (hS.sel [1, 0, 2, 3, 4, 5, 6, 7, 8, 9, 10, 11, 12, 13, 14, 15, 16, 17] rfl)
   replace hS : SH M X w [eI tS y22.Words (yg16 4 0), eI (tI .u8) y17.Kinds (yg16 2 1), eI tS y17.Words (yg16 2 0), eO 5 (tI .u8) y22.Kinds (yg16 4 1), eO 9 tS y27.Words (yg16 6 0), eO 5 (tI .u8) y27.Kinds (yg16 6 1), eO 9 tS y32.Words (yg16 8 0), eO 5 (tI .u8) y32.Kinds (yg16 8 1), eO 9 tS y37.Words (yg16 9 0), eO 5 (tI .u8) y37.Kinds (yg16 9 1), eO 9 tS y42.Words (yg16 10 0), eO 5 (tI .u8) y42.Kinds (yg16 10 1), eO 9 tS y48.Words (yg16 12 0), eO 5 (tI .u8) y48.Kinds (yg16 12 1), eI (tI .u8) ([] : List Int) (.nil), eO 9 tS y54.Words (yg16 14 0), eO 5 (tI .u8) y54.Kinds (yg16 14 1), eI (tI .u8) ([] : List Int) (.nil)] _ := SH.frz1 (hS.sel [2, 0, 1, 3, 4, 5, 6, 7, 8, 9, 10, 11, 12, 13, 14, 15, 16, 17] rfl)
   replace hS : SH M X w [eI (tI .u8) y22.Kinds (yg16 4 1), eI tS y22.Words (yg16 4 0), eI (tI .u8) y17.Kinds (yg16 2 1), eI tS y17.Words (yg16 2 0), eO 9 tS y27.Words (yg16 6 0), eO 5 (tI .u8) y27.Kinds (yg16 6 1), eO 9 tS y32.Words (yg16 8 0), eO 5 (tI .u8) y32.Kinds (yg16 8 1), eO 9 tS y37.Words (yg16 9 0), eO 5 (tI .u8) y37.Kinds (yg16 9 1), eO 9 tS y42.Words (yg16 10 0), eO 5 (tI .u8) y42.Kinds (yg16 10 1), eO 9 tS y48.Words (yg16 12 0), eO 5 (tI .u8) y48.Kinds (yg16 12 1), eI (tI .u8) ([] : List Int) (.nil), eO 9 tS y54.Words (yg16 14 0), eO 5 (tI .u8) y54.Kinds (yg16 14 1), eI (tI .u8) ([] : List Int) (.nil)] _ := SH.frz1 (hS.sel [3, 0, 1, 2, 4, 5, 6, 7, 8, 9, 10, 11, 12, 13, 14, 15, 16, 17] rfl)
   replace hS : SH M X w [eI tS y27.Words (yg16 6 0), eI (tI .u8) y22.Kinds (yg16 4 1), eI tS y22.Words (yg16 4 0), eI (tI .u8) y17.Kinds (yg16 2 1), eI tS y17.Words (yg16 2 0), eO 5 (tI .u8) y27.Kinds (yg16 6 1), eO 9 tS y32.Words (yg16 8 0), eO 5 (tI .u8) y32.Kinds (yg16 8 1), eO 9 tS y37.Words (yg16 9 0), eO 5 (tI .u8) y37.Kinds (yg16 9 1), eO 9 tS y42.Words (yg16 10 0), eO 5 (tI .u8) y42.Kinds (yg16 10 1), eO 9 tS y48.Words (yg16 12 0), eO 5 (tI .u8) y48.Kinds (yg16 12 1), eI (tI .u8) ([] : List Int) (.nil), eO 9 tS y54.Words (yg16 14 0), eO 5 (tI .u8) y54.Kinds (yg16 14 1), eI (tI .u8) ([] : List Int) (.nil)] _ := SH.frz1 (hS.sel [4, 0, 1, 2, 3, 5, 6, 7, 8, 9, 10, 11, 12, 13, 14, 15, 16, 17] rfl)
   replace hS : SH M X w [eI (tI .u8) y27.Kinds (yg16 6 1), eI tS y27.Words (yg16 6 0), eI (tI .u8) y22.Kinds (yg16 4 1), eI tS y22.Words (yg16 4 0), eI (tI .u8) y17.Kinds (yg16 2 1), eI tS y17.Words (yg16 2 0), eO 9 tS y32.Words (yg16 8 0), eO 5 (tI .u8) y32.Kinds (yg16 8 1), eO 9 tS y37.Words (yg16 9 0), eO 5 (tI .u8) y37.Kinds (yg16 9 1), eO 9 tS y42.Words (yg16 10 0), eO 5 (tI .u8) y42.Kinds (yg16 10 1), eO 9 tS y48.Words (yg16 12 0), eO 5 (tI .u8) y48.Kinds (yg16 12 1), eI (tI .u8) ([] : List Int) (.nil), eO 9 tS y54.Words (yg16 14 0), eO 5 (tI .u8) y54.Kinds (yg16 14 1), eI (tI .u8) ([] : List Int) (.nil)] _ := SH.frz1 (hS.sel [5, 0, 1, 2, 3, 4, 6, 7, 8, 9, 10, 11, 12, 13, 14, 15, 16, 17] rfl)
   replace hS : SH M X w [eI tS y32.Words (yg16 8 0), eI (tI .u8) y27.Kinds (yg16 6 1), eI tS y27.Words (yg16 6 0), eI (tI .u8) y22.Kinds (yg16 4 1), eI tS y22.Words (yg16 4 0), eI (tI .u8) y17.Kinds (yg16 2 1), eI tS y17.Words (yg16 2 0), eO 5 (tI .u8) y32.Kinds (yg16 8 1), eO 9 tS y37.Words (yg16 9 0), eO 5 (tI .u8) y37.Kinds (yg16 9 1), eO 9 tS y42.Words (yg16 10 0), eO 5 (tI .u8) y42.Kinds (yg16 10 1), eO 9 tS y48.Words (yg16 12 0), eO 5 (tI .u8) y48.Kinds (yg16 12 1), eI (tI .u8) ([] : List Int) (.nil), eO 9 tS y54.Words (yg16 14 0), eO 5 (tI .u8) y54.Kinds (yg16 14 1), eI (tI .u8) ([] : List Int) (.nil)] _ := SH.frz1 (hS.sel [6, 0, 1, 2, 3, 4, 5, 7, 8, 9, 10, 11, 12, 13, 14, 15, 16, 17] rfl)
   replace hS : SH M X w [eI (tI .u8) y32.Kinds (yg16 8 1), eI tS y32.Words (yg16 8 0), eI (tI .u8) y27.Kinds (yg16 6 1), eI tS y27.Words (yg16 6 0), eI (tI .u8) y22.Kinds (yg16 4 1), eI tS y22.Words (yg16 4 0), eI (tI .u8) y17.Kinds (yg16 2 1), eI tS y17.Words (yg16 2 0), eO 9 tS y37.Words (yg16 9 0), eO 5 (tI .u8) y37.Kinds (yg16 9 1), eO 9 tS y42.Words (yg16 10 0), eO 5 (tI .u8) y42.Kinds (yg16 10 1), eO 9 tS y48.Words (yg16 12 0), eO 5 (tI .u8) y48.Kinds (yg16 12 1), eI (tI .u8) ([] : List Int) (.nil), eO 9 tS y54.Words (yg16 14 0), eO 5 (tI .u8) y54.Kinds (yg16 14 1), eI (tI .u8) ([] : List Int) (.nil)] _ := SH.frz1 (hS.sel [7, 0, 1, 2, 3, 4, 5, 6, 8, 9, 10, 11, 12, 13, 14, 15, 16, 17] rfl)
   replace hS : SH M X w [eI tS y37.Words (yg16 9 0), eI (tI .u8) y32.Kinds (yg16 8 1), eI tS y32.Words (yg16 8 0), eI (tI .u8) y27.Kinds (yg16 6 1), eI tS y27.Words (yg16 6 0), eI (tI .u8) y22.Kinds (yg16 4 1), eI tS y22.Words (yg16 4 0), eI (tI .u8) y17.Kinds (yg16 2 1), eI tS y17.Words (yg16 2 0), eO 5 (tI .u8) y37.Kinds (yg16 9 1), eO 9 tS y42.Words (yg16 10 0), eO 5 (tI .u8) y42.Kinds (yg16 10 1), eO 9 tS y48.Words (yg16 12 0), eO 5 (tI .u8) y48.Kinds (yg16 12 1), eI (tI .u8) ([] : List Int) (.nil), eO 9 tS y54.Words (yg16 14 0), eO 5 (tI .u8) y54.Kinds (yg16 14 1), eI (tI .u8) ([] : List Int) (.nil)] _ := SH.frz1 (hS.sel [8, 0, 1, 2, 3, 4, 5, 6, 7, 9, 10, 11, 12, 13, 14, 15, 16, 17] rfl)
   replace hS : SH M X w [eI (tI .u8) y37.Kinds (yg16 9 1), eI tS y37.Words (yg16 9 0), eI (tI .u8) y32.Kinds (yg16 8 1), eI tS y32.Words (yg16 8 0), eI (tI .u8) y27.Kinds (yg16 6 1), eI tS y27.Words (yg16 6 0), eI (tI .u8) y22.Kinds (yg16 4 1), eI tS y22.Words (yg16 4 0), eI (tI .u8) y17.Kinds (yg16 2 1), eI tS y17.Words (yg16 2 0), eO 9 tS y42.Words (yg16 10 0), eO 5 (tI .u8) y42.Kinds (yg16 10 1), eO 9 tS y48.Words (yg16 12 0), eO 5 (tI .u8) y48.Kinds (yg16 12 1), eI (tI .u8) ([] : List Int) (.nil), eO 9 tS y54.Words (yg16 14 0), eO 5 (tI .u8) y54.Kinds (yg16 14 1), eI (tI .u8) ([] : List Int) (.nil)] _ := SH.frz1 (hS.sel [9, 0, 1, 2, 3, 4, 5, 6, 7, 8, 10, 11, 12, 13, 14, 15, 16, 17] rfl)
   replace hS : SH M X w [eI tS y42.Words (yg16 10 0), eI (tI .u8) y37.Kinds (yg16 9 1), eI tS y37.Words (yg16 9 0), eI (tI .u8) y32.Kinds (yg16 8 1), eI tS y32.Words (yg16 8 0), eI (tI .u8) y27.Kinds (yg16 6 1), eI tS y27.Words (yg16 6 0), eI (tI .u8) y22.Kinds (yg16 4 1), eI tS y22.Words (yg16 4 0), eI (tI .u8) y17.Kinds (yg16 2 1), eI tS y17.Words (yg16 2 0), eO 5 (tI .u8) y42.Kinds (yg16 10 1), eO 9 tS y48.Words (yg16 12 0), eO 5 (tI .u8) y48.Kinds (yg16 12 1), eI (tI .u8) ([] : List Int) (.nil), eO 9 tS y54.Words (yg16 14 0), eO 5 (tI .u8) y54.Kinds (yg16 14 1), eI (tI .u8) ([] : List Int) (.nil)] _ := SH.frz1 (hS.sel [10, 0, 1, 2, 3, 4, 5, 6, 7, 8, 9, 11, 12, 13, 14, 15, 16, 17] rfl)
   replace hS : SH M X w [eI (tI .u8) y42.Kinds (yg16 10 1), eI tS y42.Words (yg16 10 0), eI (tI .u8) y37.Kinds (yg16 9 1), eI tS y37.Words (yg16 9 0), eI (tI .u8) y32.Kinds (yg16 8 1), eI tS y32.Words (yg16 8 0), eI (tI .u8) y27.Kinds (yg16 6 1), eI tS y27.Words (yg16 6 0), eI (tI .u8) y22.Kinds (yg16 4 1), eI tS y22.Words (yg16 4 0), eI (tI .u8) y17.Kinds (yg16 2 1), eI tS y17.Words (yg16 2 0), eO 9 tS y48.Words (yg16 12 0), eO 5 (tI .u8) y48.Kinds (yg16 12 1), eI (tI .u8) ([] : List Int) (.nil), eO 9 tS y54.Words (yg16 14 0), eO 5 (tI .u8) y54.Kinds (yg16 14 1), eI (tI .u8) ([] : List Int) (.nil)] _ := SH.frz1 (hS.sel [11, 0, 1, 2, 3, 4, 5, 6, 7, 8, 9, 10, 12, 13, 14, 15, 16, 17] rfl)
   replace hS : SH M X w [eI tS y48.Words (yg16 12 0), eI (tI .u8) y42.Kinds (yg16 10 1), eI tS y42.Words (yg16 10 0), eI (tI .u8) y37.Kinds (yg16 9 1), eI tS y37.Words (yg16 9 0), eI (tI .u8) y32.Kinds (yg16 8 1), eI tS y32.Words (yg16 8 0), eI (tI .u8) y27.Kinds (yg16 6 1), eI tS y27.Words (yg16 6 0), eI (tI .u8) y22.Kinds (yg16 4 1), eI tS y22.Words (yg16 4 0), eI (tI .u8) y17.Kinds (yg16 2 1), eI tS y17.Words (yg16 2 0), eO 5 (tI .u8) y48.Kinds (yg16 12 1), eI (tI .u8) ([] : List Int) (.nil), eO 9 tS y54.Words (yg16 14 0), eO 5 (tI .u8) y54.Kinds (yg16 14 1), eI (tI .u8) ([] : List Int) (.nil)] _ := SH.frz1 (hS.sel [12, 0, 1, 2, 3, 4, 5, 6, 7, 8, 9, 10, 11, 13, 14, 15, 16, 17] rfl)
   replace hS : SH M X w [eI (tI .u8) y48.Kinds (yg16 12 1), eI tS y48.Words (yg16 12 0), eI (tI .u8) y42.Kinds (yg16 10 1), eI tS y42.Words (yg16 10 0), eI (tI .u8) y37.Kinds (yg16 9 1), eI tS y37.Words (yg16 9 0), eI (tI .u8) y32.Kinds (yg16 8 1), eI tS y32.Words (yg16 8 0), eI (tI .u8) y27.Kinds (yg16 6 1), eI tS y27.Words (yg16 6 0), eI (tI .u8) y22.Kinds (yg16 4 1), eI tS y22.Words (yg16 4 0), eI (tI .u8) y17.Kinds (yg16 2 1), eI tS y17.Words (yg16 2 0), eI (tI .u8) ([] : List Int) (.nil), eO 9 tS y54.Words (yg16 14 0), eO 5 (tI .u8) y54.Kinds (yg16 14 1), eI (tI .u8) ([] : List Int) (.nil)] _ := SH.frz1 (hS.sel [13, 0, 1, 2, 3, 4, 5, 6, 7, 8, 9, 10, 11, 12, 14, 15, 16, 17] rfl)
   replace hS : SH M X w [eI tS y54.Words (yg16 14 0), eI (tI .u8) y48.Kinds (yg16 12 1), eI tS y48.Words (yg16 12 0), eI (tI .u8) y42.Kinds (yg16 10 1), eI tS y42.Words (yg16 10 0), eI (tI .u8) y37.Kinds (yg16 9 1), eI tS y37.Words (yg16 9 0), eI (tI .u8) y32.Kinds (yg16 8 1), eI tS y32.Words (yg16 8 0), eI (tI .u8) y27.Kinds (yg16 6 1), eI tS y27.Words (yg16 6 0), eI (tI .u8) y22.Kinds (yg16 4 1), eI tS y22.Words (yg16 4 0), eI (tI .u8) y17.Kinds (yg16 2 1), eI tS y17.Words (yg16 2 0), eI (tI .u8) ([] : List Int) (.nil), eO 5 (tI .u8) y54.Kinds (yg16 14 1), eI (tI .u8) ([] : List Int) (.nil)] _ := SH.frz1 (hS.sel [15, 0, 1, 2, 3, 4, 5, 6, 7, 8, 9, 10, 11, 12, 13, 14, 16, 17] rfl)
   replace hS : SH M X w [eI (tI .u8) y54.Kinds (yg16 14 1), eI tS y54.Words (yg16 14 0), eI (tI .u8) y48.Kinds (yg16 12 1), eI tS y48.Words (yg16 12 0), eI (tI .u8) y42.Kinds (yg16 10 1), eI tS y42.Words (yg16 10 0), eI (tI .u8) y37.Kinds (yg16 9 1), eI tS y37.Words (yg16 9 0), eI (tI .u8) y32.Kinds (yg16 8 1), eI tS y32.Words (yg16 8 0), eI (tI .u8) y27.Kinds (yg16 6 1), eI tS y27.Words (yg16 6 0), eI (tI .u8) y22.Kinds (yg16 4 1), eI tS y22.Words (yg16 4 0), eI (tI .u8) y17.Kinds (yg16 2 1), eI tS y17.Words (yg16 2 0), eI (tI .u8) ([] : List Int) (.nil), eI (tI .u8) ([] : List Int) (.nil)] _ := SH.frz1 (hS.sel [16, 0, 1, 2, 3, 4, 5, 6, 7, 8, 9, 10, 11, 12, 13, 14, 15, 17] rfl)
   have hd := hS.hand [15, 14, 13, 12, 11, 10, 9, 8, 7, 6, 5, 4, 3, 2, 1, 0] [0, 1, 2, 3, 4, 5, 6, 7, 8, 9, 10, 11, 12, 13, 14, 15, 16, 17] rfl rfl
   refine Stp.mono (o_lit (T := tyProp) (E := 82) (zv := vG [vN, vF, vU 0, vN, vI 0, vU 0, vU 0, vU 0, vU 0, vO, vO, vF]) [vS y17.Name, vB y17.Inherited, vU y17.Initial.Kind, vS y17.Initial.Word, vI y17.Initial.Num, vU y17.Initial.Color.Red, vU y17.Initial.Color.Green, vU y17.Initial.Color.Blue, vU y17.Initial.Color.Alpha, .slice (yg16 2 0).a y17.Words.length (yg16 2 0).c, .slice (yg16 2 1).a y17.Kinds.length (yg16 2 1).c, vB y17.Least, vS y22.Name, vB y22.Inherited, vU y22.Initial.Kind, vS y22.Initial.Word, vI y22.Initial.Num, vU y22.Initial.Color.Red, vU y22.Initial.Color.Green, vU y22.Initial.Color.Blue, vU y22.Initial.Color.Alpha, .slice (yg16 4 0).a y22.Words.length (yg16 4 0).c, .slice (yg16 4 1).a y22.Kinds.length (yg16 4 1).c, vB y22.Least, vS y27.Name, vB y27.Inherited, vU y27.Initial.Kind, vS y27.Initial.Word, vI y27.Initial.Num, vU y27.Initial.Color.Red, vU y27.Initial.Color.Green, vU y27.Initial.Color.Blue, vU y27.Initial.Color.Alpha, .slice (yg16 6 0).a y27.Words.length (yg16 6 0).c, .slice (yg16 6 1).a y27.Kinds.length (yg16 6 1).c, vB y27.Least, vS y32.Name, vB y32.Inherited, vU y32.Initial.Kind, vS y32.Initial.Word, vI y32.Initial.Num, vU y32.Initial.Color.Red, vU y32.Initial.Color.Green, vU y32.Initial.Color.Blue, vU y32.Initial.Color.Alpha, .slice (yg16 8 0).a y32.Words.length (yg16 8 0).c, .slice (yg16 8 1).a y32.Kinds.length (yg16 8 1).c, vB y32.Least, vS y37.Name, vB y37.Inherited, vU y37.Initial.Kind, vS y37.Initial.Word, vI y37.Initial.Num, vU y37.Initial.Color.Red, vU y37.Initial.Color.Green, vU y37.Initial.Color.Blue, vU y37.Initial.Color.Alpha, .slice (yg16 9 0).a y37.Words.length (yg16 9 0).c, .slice (yg16 9 1).a y37.Kinds.length (yg16 9 1).c, vB y37.Least, vS y42.Name, vB y42.Inherited, vU y42.Initial.Kind, vS y42.Initial.Word, vI y42.Initial.Num, vU y42.Initial.Color.Red, vU y42.Initial.Color.Green, vU y42.Initial.Color.Blue, vU y42.Initial.Color.Alpha, .slice (yg16 10 0).a y42.Words.length (yg16 10 0).c, .slice (yg16 10 1).a y42.Kinds.length (yg16 10 1).c, vB y42.Least, vS y48.Name, vB y48.Inherited, vU y48.Initial.Kind, vS y48.Initial.Word, vI y48.Initial.Num, vU y48.Initial.Color.Red, vU y48.Initial.Color.Green, vU y48.Initial.Color.Blue, vU y48.Initial.Color.Alpha, .slice (yg16 12 0).a y48.Words.length (yg16 12 0).c, .slice (yg16 12 1).a y48.Kinds.length (yg16 12 1).c, vB y48.Least, vS y54.Name, vB y54.Inherited, vU y54.Initial.Kind, vS y54.Initial.Word, vI y54.Initial.Num, vU y54.Initial.Color.Red, vU y54.Initial.Color.Green, vU y54.Initial.Color.Blue, vU y54.Initial.Color.Alpha, .slice (yg16 14 0).a y54.Words.length (yg16 14 0).c, .slice (yg16 14 1).a y54.Kinds.length (yg16 14 1).c, vB y54.Least] ([y17, y22, y27, y32, y37, y42, y48, y54] : List TProp) [gL [(yg16 2 0), (yg16 2 1)], gL [(yg16 4 0), (yg16 4 1)], gL [(yg16 6 0), (yg16 6 1)], gL [(yg16 8 0), (yg16 8 1)], gL [(yg16 9 0), (yg16 9 1)], gL [(yg16 10 0), (yg16 10 1)], gL [(yg16 12 0), (yg16 12 1)], gL [(yg16 14 0), (yg16 14 1)]] _ H hd rfl (by kernel_rfl) (by kernel_rfl) (by kernel_rfl) (by kernel_rfl) (by kernel_rfl) (by kernel_rfl) (by kernel_rfl) rfl (InnL.cons (tyProp_mk (hd.im 0 rfl) (hd.im 1 rfl)) (InnL.cons (tyProp_mk (hd.im 2 rfl) (hd.im 3 rfl)) (InnL.cons (tyProp_mk (hd.im 4 rfl) (hd.im 5 rfl)) (InnL.cons (tyProp_mk (hd.im 6 rfl) (hd.im 7 rfl)) (InnL.cons (tyProp_mk (hd.im 8 rfl) (hd.im 9 rfl)) (InnL.cons (tyProp_mk (hd.im 10 rfl) (hd.im 11 rfl)) (InnL.cons (tyProp_mk (hd.im 12 rfl) (hd.im 13 rfl)) (InnL.cons (tyProp_mk (hd.im 14 rfl) (hd.im 15 rfl)) InnL.nil))))))))) ?_
   rintro v w2 hq
   obtain ⟨g59, rfl, hq⟩ := hq
   replace hS : SH M X w [eO 82 tyProp ([y17, y22, y27, y32, y37, y42, y48, y54] : List TProp) g59, eI (tI .u8) y54.Kinds (yg16 14 1), eI tS y54.Words (yg16 14 0), eI (tI .u8) y48.Kinds (yg16 12 1), eI tS y48.Words (yg16 12 0), eI (tI .u8) y42.Kinds (yg16 10 1), eI tS y42.Words (yg16 10 0), eI (tI .u8) y37.Kinds (yg16 9 1), eI tS y37.Words (yg16 9 0), eI (tI .u8) y32.Kinds (yg16 8 1), eI tS y32.Words (yg16 8 0), eI (tI .u8) y27.Kinds (yg16 6 1), eI tS y27.Words (yg16 6 0), eI (tI .u8) y22.Kinds (yg16 4 1), eI tS y22.Words (yg16 4 0), eI (tI .u8) y17.Kinds (yg16 2 1), eI tS y17.Words (yg16 2 0), eI (tI .u8) ([] : List Int) (.nil), eI (tI .u8) ([] : List Int) (.nil)] _ := hS.join [15, 14, 13, 12, 11, 10, 9, 8, 7, 6, 5, 4, 3, 2, 1, 0] [0, 1, 2, 3, 4, 5, 6, 7, 8, 9, 10, 11, 12, 13, 14, 15, 16, 17] rfl rfl hq
   clear hq
   rw [hX] at hS
   exact ⟨gL [g59], fun _ _ => rfl, hS.sel [0, 1, 2, 3, 4, 5, 6, 7, 8, 9, 10, 11, 12, 13, 14, 15, 16, 17, 18] rfl⟩
  ·intro o ho a w yg16 M Hb hv hO hS
   obtain rfl := Option.some.inj ho
   exact Stp.mono (o_evs [] (.slice (yg16 15 0).a 8 (yg16 15 0).c) none [] ((Hb).add (hv 15 (by decide) (by decide) 23 rfl)) rfl (by kernel_rfl) (fun q e => by cases e)) fun _ _ hq => ⟨gL [], fun _ _ => hq.1, (hS.below hq.2.below).sel [0, 1, 2, 3, 4, 5, 6, 7, 8, 9, 10, 11, 12, 13, 14, 15, 16, 17, 18] rfl⟩
 have H63 : Fr 57 [(3, [], .slice (yg16 15 0).a 8 (yg16 15 0).c), (1, [], vP b6), (2, [], vP b9)] _ := (FrG.add (FrG.keep (ks := [1, 2]) H62 (by kernel_rfl)) (hv 16 3 rfl))
 replace hS : SH M X w [eO 82 tyProp ([y17, y22, y27, y32, y37, y42, y48, y54] : List TProp) (yg16 15 0), eI (tI .u8) y54.Kinds (yg16 14 1), eI tS y54.Words (yg16 14 0), eI (tI .u8) y48.Kinds (yg16 12 1), eI tS y48.Words (yg16 12 0), eI (tI .u8) y42.Kinds (yg16 10 1), eI tS y42.Words (yg16 10 0), eI (tI .u8) y37.Kinds (yg16 9 1), eI tS y37.Words (yg16 9 0), eI (tI .u8) y32.Kinds (yg16 8 1), eI tS y32.Words (yg16 8 0), eI (tI .u8) y27.Kinds (yg16 6 1), eI tS y27.Words (yg16 6 0), eI (tI .u8) y22.Kinds (yg16 4 1), eI tS y22.Words (yg16 4 0), eI (tI .u8) y17.Kinds (yg16 2 1), eI tS y17.Words (yg16 2 0), eI (tI .u8) ([] : List Int) (.nil), eI (tI .u8) ([] : List Int) (.nil), eB b9 [vU 2, vN, vI 0, vU 0, vU 0, vU 0, vU 0], eB b6 [vU y3.Kind, vS y3.Word, vI y3.Num, vU y3.Color.Red, vU y3.Color.Green, vU y3.Color.Blue, vU y3.Color.Alpha], gE1] _ := hS
 clear hv H62
 generalize yg16 15 0 = g64 at H63 hS
 generalize yg16 14 1 = g65 at H63 hS
 generalize yg16 14 0 = g66 at H63 hS
 generalize yg16 12 1 = g67 at H63 hS
 generalize yg16 12 0 = g68 at H63 hS
 generalize yg16 10 1 = g69 at H63 hS
 generalize yg16 10 0 = g70 at H63 hS
 generalize yg16 9 1 = g71 at H63 hS
 generalize yg16 9 0 = g72 at H63 hS
 generalize yg16 8 1 = g73 at H63 hS
 generalize yg16 8 0 = g74 at H63 hS
 generalize yg16 6 1 = g75 at H63 hS
 generalize yg16 6 0 = g76 at H63 hS
 generalize yg16 4 1 = g77 at H63 hS
 generalize yg16 4 0 = g78 at H63 hS
 generalize yg16 2 1 = g79 at H63 hS
 generalize yg16 2 0 = g80 at H63 hS
 replace hS : SH M X w [eO 82 tyProp ([y17, y22, y27, y32, y37, y42, y48, y54] : List TProp) g64, eB b9 [vU 2, vN, vI 0, vU 0, vU 0, vU 0, vU 0], eB b6 [vU y3.Kind, vS y3.Word, vI y3.Num, vU y3.Color.Red, vU y3.Color.Green, vU y3.Color.Blue, vU y3.Color.Alpha], gE1] _ := hS.sel [0, 19, 20, 21] rfl
 obtain ⟨z81, hz, hm⟩ := bindE hm
 refine w_cut (fun a' w' => ∃ (g123 : Gh), Fr 57 [(1, [], vP b6), (3, [], vL g123 z81)] a' ∧ SH M X w [eO 82 tyProp z81 g123, eB b9 [vU 2, vN, vI 0, vU 0, vU 0, vU 0, vU 0], eB b6 [vU y3.Kind, vS y3.Word, vI y3.Num, vU y3.Color.Red, vU y3.Color.Green, vU y3.Color.Blue, vU y3.Color.Alpha], gE1] w') ?_ ?_
 ·replace hm := hz
  refine w_seq ?_
  refine wl_start ?_
  have hd := hS.hand [] [0, 1, 2, 3] rfl rfl
  refine m_stp [24, 1, 2, 3] [(1, [], vP b6), (2, [], vP b9), (3, [], .slice g64.a 8 g64.c)] H63 rfl rfl rfl rfl (o_lit (T := tS) (E := 9) (zv := vN) [vS [116, 111, 112], vS [114, 105, 103, 104, 116], vS [98, 111, 116, 116, 111, 109], vS [108, 101, 102, 116]] ([[116, 111, 112], [114, 105, 103, 104, 116], [98, 111, 116, 116, 111, 109], [108, 101, 102, 116]] : List Str) [gL [], gL [], gL [], gL []] _ H63 hd rfl (by kernel_rfl) (by kernel_rfl) (by kernel_rfl) (by kernel_rfl) (by kernel_rfl) (by kernel_rfl) (by kernel_rfl) rfl (InnL.cons trivial (InnL.cons trivial (InnL.cons trivial (InnL.cons trivial InnL.nil))))) (fun _ => rfl) fun _ _ v H85 hq => ?_
  clear H63 hd
  obtain ⟨g82, rfl, hq⟩ := hq
  replace hS : SH M X w [eO 9 tS ([[116, 111, 112], [114, 105, 103, 104, 116], [98, 111, 116, 116, 111, 109], [108, 101, 102, 116]] : List Str) g82, eO 82 tyProp ([y17, y22, y27, y32, y37, y42, y48, y54] : List TProp) g64, eB b9 [vU 2, vN, vI 0, vU 0, vU 0, vU 0, vU 0], eB b6 [vU y3.Kind, vS y3.Word, vI y3.Num, vU y3.Color.Red, vU y3.Color.Green, vU y3.Color.Blue, vU y3.Color.Alpha], gE1] _ := hS.join [] [0, 1, 2, 3] rfl rfl hq
  clear hq
  refine wl_batch 1 3 [] [1, 2, 3, 24, 25, 26] [(1, [], vP b6), (2, [], vP b9), (3, [], .slice g64.a 8 g64.c), (24, [], .slice g82.a 4 g82.c), (25, [], vI 4), (26, [], vI 0)] [] H85 (by decide) (by kernel_rfl) trivial fun _ _ H87 hb => ?_
  replace hS := hS.below hb
  clear H85 hb
  refine wl_end rfl ?_
  refine w_block ?_
  refine w_loop (fun kk a' w' => ∃ (v88 : List TProp) (v90 : Int) (g89 : Gh), props_Table_L1 m  kk v88 v90 = some _ ∧ Fr 57 [(1, [], vP b6), (2, [], vP b9), (24, [], .slice g82.a 4 g82.c), (25, [], vI 4), (3, [], vL g89 v88), (26, [], vI v90)] a' ∧ SH M X w [eO 9 tS ([[116, 111, 112], [114, 105, 103, 104, 116], [98, 111, 116, 116, 111, 109], [108, 101, 102, 116]] : List Str) g82, eO 82 tyProp v88 g89, eB b9 [vU 2, vN, vI 0, vU 0, vU 0, vU 0, vU 0], eB b6 [vU y3.Kind, vS y3.Word, vI y3.Num, vU y3.Color.Red, vU y3.Color.Green, vU y3.Color.Blue, vU y3.Color.Alpha], gE1] w') ⟨_, ([y17, y22, y27, y32, y37, y42, y48, y54] : List TProp), 0, g64, hm, FrG.keep (ks := [1, 2, 24, 25, 3, 26]) H87 (by kernel_rfl), hS⟩ ?_
  clear hm H87 hS
  rintro kk _ _ ⟨v88, v90, g89, hm, H, hS⟩
  cases kk with
  | zero => exact noneE hm
  | succ kk =>
   rw [props_Table_L1] at hm
   refine s_reg [] [1, 2, 3, 24, 25, 26, 27] [(1, [], vP b6), (2, [], vP b9), (3, [], vL g89 v88), (24, [], .slice g82.a 4 g82.c), (25, [], vI 4), (26, [], vI v90), (27, [], vB (decide (v90 < 4)))] [] H (by kernel_rfl) trivial fun _ _ H92 hb => ?_
   replace hS := hS.below hb
   clear H hb
   refine w_seq ?_
   refine w_if H92 rfl (fun hc => ?_) (fun hc => ?c121)
   case c121 =>
    replace hm := bF hc hm
    refine w_exit rfl ?_
    obtain rfl := someE hm
    replace hS : SH M X w [eO 82 tyProp v88 g89, eB b9 [vU 2, vN, vI 0, vU 0, vU 0, vU 0, vU 0], eB b6 [vU y3.Kind, vS y3.Word, vI y3.Num, vU y3.Color.Red, vU y3.Color.Green, vU y3.Color.Blue, vU y3.Color.Alpha], gE1] _ := hS.sel [1, 2, 3, 4] rfl
    exact ⟨g89, FrG.keep (ks := [1, 3]) H92 (by kernel_rfl), hS⟩
   replace hm := bT hc hm
   refine w_skip ?_
   refine w_seq ?_
   refine w_block ?_
   obtain ⟨ho93, hm⟩ := chkE hm
   obtain ⟨x94, hx94, hm⟩ := letE hm
   refine s_reg [(vS (gi ([[116, 111, 112], [114, 105, 103, 104, 116], [98, 111, 116, 116, 111, 109], [108, 101, 102, 116]] : List Str) v90))] [1, 2, 3, 5, 24, 25, 26] [(1, [], vP b6), (2, [], vP b9), (3, [], vL g89 v88), (5, [], vS x94), (24, [], .slice g82.a 4 g82.c), (25, [], vI 4), (26, [], vI v90)] [fun _ => oka g82.a ∧ 0 ≤ v90 ∧ v90 < ln ([[116, 111, 112], [114, 105, 103, 104, 116], [98, 111, 116, 116, 111, 109], [108, 101, 102, 116]] : List Str), fun wz => V.at1 ⟨ab g82.a, ao g82.a + (v90).toNat * 1, none⟩ (vS (gi ([[116, 111, 112], [114, 105, 103, 104, 116], [98, 111, 116, 116, 111, 109], [108, 101, 102, 116]] : List Str) v90)) wz] H92 (by subst hx94; kernel_rfl) ⟨((hS.osl 0 rfl).oki ho93), ((hS.osl 0 rfl).at1 ho93 0 rfl), trivial⟩ fun _ _ H96 hb => ?_
   replace hS := hS.below hb
   clear H92 hb
   refine wl_start ?_
   obtain ⟨ho97, hm⟩ := chkE hm
   refine wl_batch 0 4 [(vG [vU 2, vN, vI 0, vU 0, vU 0, vU 0, vU 0])] [1, 2, 24, 25, 26, 30, 32, 33] [(1, [], vP b6), (2, [], vP b9), (24, [], .slice g82.a 4 g82.c), (25, [], vI 4), (26, [], vI v90), (30, [], vL g89 v88), (32, [], vS ([109, 97, 114, 103, 105, 110, 45] ++ x94)), (33, [], vG [vU 2, vN, vI 0, vU 0, vU 0, vU 0, vU 0])] [fun _ => ln [109, 97, 114, 103, 105, 110, 45] + ln x94 ≤ 9223372036854775807, rN b9 0 [vU 2, vN, vI 0, vU 0, vU 0, vU 0, vU 0]] H96 (by decide) (by kernel_rfl) ⟨ho97, ((hS.bk 2 rfl).atD rfl), trivial⟩ fun _ _ H99 hb => ?_
   replace hS := hS.below hb
   clear H96 hb
   replace hS : SH M X w [eO 5 (tI .u8) ([] : List Int) (.nil), eO 9 tS ([[116, 111, 112], [114, 105, 103, 104, 116], [98, 111, 116, 116, 111, 109], [108, 101, 102, 116]] : List Str) g82, eO 82 tyProp v88 g89, eB b9 [vU 2, vN, vI 0, vU 0, vU 0, vU 0, vU 0], eB b6 [vU y3.Kind, vS y3.Word, vI y3.Num, vU y3.Color.Red, vU y3.Color.Green, vU y3.Color.Blue, vU y3.Color.Alpha], gE1] _ := hS.addNil 5 (tI .u8)
   replace hS : SH M X w [eI (tI .u8) ([] : List Int) (.nil), eO 9 tS ([[116, 111, 112], [114, 105, 103, 104, 116], [98, 111, 116, 116, 111, 109], [108, 101, 102, 116]] : List Str) g82, eO 82 tyProp v88 g89, eB b9 [vU 2, vN, vI 0, vU 0, vU 0, vU 0, vU 0], eB b6 [vU y3.Kind, vS y3.Word, vI y3.Num, vU y3.Color.Red, vU y3.Color.Green, vU y3.Color.Blue, vU y3.Color.Alpha], gE1] _ := SH.frz1 (hS.sel [0, 1, 2, 3, 4, 5] rfl)
   obtain ⟨y101, hy101, hm⟩ := bindE hm
   have hd := hS.hand [0, 5] [0, 1, 2, 3, 4, 5] rfl rfl
   refine m_stp [34, 1, 2, 24, 25, 26, 30] [(1, [], vP b6), (2, [], vP b9), (24, [], .slice g82.a 4 g82.c), (25, [], vI 4), (26, [], vI v90), (30, [], vL g89 v88)] H99 rfl rfl rfl rfl (o_callx H99 rfl rfl (props_length_ok (g_more := Gh.nil) m _ _ _ _ _ _ _ hy101 _ _ hd)) (fun _ => rfl) fun _ _ v H107 hq => ?_
   clear H99 hd
   obtain ⟨g102, g104, rfl, hq⟩ := hq
   replace hS : SH M X w [eO 9 tS y101.Words g102, eO 5 (tI .u8) y101.Kinds g104, eI (tI .u8) ([] : List Int) (.nil), eO 9 tS ([[116, 111, 112], [114, 105, 103, 104, 116], [98, 111, 116, 116, 111, 109], [108, 101, 102, 116]] : List Str) g82, eO 82 tyProp v88 g89, eB b9 [vU 2, vN, vI 0, vU 0, vU 0, vU 0, vU 0], eB b6 [vU y3.Kind, vS y3.Word, vI y3.Num, vU y3.Color.Red, vU y3.Color.Green, vU y3.Color.Blue, vU y3.Color.Alpha], gE1] _ := hS.join [0, 5] [0, 1, 2, 3, 4, 5] rfl rfl hq
   clear hq
   replace hS : SH M X w [eI tS y101.Words g102, eO 5 (tI .u8) y101.Kinds g104, eI (tI .u8) ([] : List Int) (.nil), eO 9 tS ([[116, 111, 112], [114, 105, 103, 104, 116], [98, 111, 116, 116, 111, 109], [108, 101, 102, 116]] : List Str) g82, eO 82 tyProp v88 g89, eB b9 [vU 2, vN, vI 0, vU 0, vU 0, vU 0, vU 0], eB b6 [vU y3.Kind, vS y3.Word, vI y3.Num, vU y3.Color.Red, vU y3.Color.Green, vU y3.Color.Blue, vU y3.Color.Alpha], gE1] _ := SH.frz1 (hS.sel [0, 1, 2, 3, 4, 5, 6, 7] rfl)
   replace hS : SH M X w [eI (tI .u8) y101.Kinds g104, eI tS y101.Words g102, eI (tI .u8) ([] : List Int) (.nil), eO 9 tS ([[116, 111, 112], [114, 105, 103, 104, 116], [98, 111, 116, 116, 111, 109], [108, 101, 102, 116]] : List Str) g82, eO 82 tyProp v88 g89, eB b9 [vU 2, vN, vI 0, vU 0, vU 0, vU 0, vU 0], eB b6 [vU y3.Kind, vS y3.Word, vI y3.Num, vU y3.Color.Red, vU y3.Color.Green, vU y3.Color.Blue, vU y3.Color.Alpha], gE1] _ := SH.frz1 (hS.sel [1, 0, 2, 3, 4, 5, 6, 7] rfl)
   have hd := hS.hand [1, 0] [0, 1, 2, 3, 4, 5, 6, 7] rfl rfl
   refine m_stp [35, 1, 2, 24, 25, 26, 30] [(1, [], vP b6), (2, [], vP b9), (24, [], .slice g82.a 4 g82.c), (25, [], vI 4), (26, [], vI v90), (30, [], vL g89 v88)] H107 rfl rfl rfl rfl (o_lit (T := tyProp) (E := 82) (zv := vG [vN, vF, vU 0, vN, vI 0, vU 0, vU 0, vU 0, vU 0, vO, vO, vF]) [vS y101.Name, vB y101.Inherited, vU y101.Initial.Kind, vS y101.Initial.Word, vI y101.Initial.Num, vU y101.Initial.Color.Red, vU y101.Initial.Color.Green, vU y101.Initial.Color.Blue, vU y101.Initial.Color.Alpha, vL g102 y101.Words, vL g104 y101.Kinds, vB y101.Least] ([y101] : List TProp) [gL [g102, g104]] _ H107 hd rfl (by kernel_rfl) (by kernel_rfl) (by kernel_rfl) (by kernel_rfl) (by kernel_rfl) (by kernel_rfl) (by kernel_rfl) rfl (InnL.cons (tyProp_mk (hd.im 0 rfl) (hd.im 1 rfl)) InnL.nil)) (fun _ => rfl) fun _ _ v H111 hq => ?_
   clear H107 hd
   obtain ⟨g108, rfl, hq⟩ := hq
   replace hS : SH M X w [eO 82 tyProp ([y101] : List TProp) g108, eI (tI .u8) y101.Kinds g104, eI tS y101.Words g102, eI (tI .u8) ([] : List Int) (.nil), eO 9 tS ([[116, 111, 112], [114, 105, 103, 104, 116], [98, 111, 116, 116, 111, 109], [108, 101, 102, 116]] : List Str) g82, eO 82 tyProp v88 g89, eB b9 [vU 2, vN, vI 0, vU 0, vU 0, vU 0, vU 0], eB b6 [vU y3.Kind, vS y3.Word, vI y3.Num, vU y3.Color.Red, vU y3.Color.Green, vU y3.Color.Blue, vU y3.Color.Alpha], gE1] _ := hS.join [1, 0] [0, 1, 2, 3, 4, 5, 6, 7] rfl rfl hq
   clear hq
   obtain ⟨ho112, hm⟩ := chkE hm
   obtain ⟨q113, hq113, hm⟩ := letE hm
   have hd := hS.hand [5, 0] [1, 2, 3, 4, 6, 7, 8] rfl rfl
   refine m_stp [36, 1, 2, 24, 25, 26] [(1, [], vP b6), (2, [], vP b9), (24, [], .slice g82.a 4 g82.c), (25, [], vI 4), (26, [], vI v90)] H111 rfl rfl rfl rfl (o_app2 (T := tyProp) (zv := vG [vN, vF, vU 0, vN, vI 0, vU 0, vU 0, vU 0, vU 0, vO, vO, vF]) (g1 := g89) (g2 := g108) (l1 := v88) (l2 := ([y101] : List TProp)) q113 hq113.symm H111 hd rfl rfl rfl rfl rfl rfl rfl (by kernel_rfl) (by kernel_rfl) rfl rfl ho112) (fun _ => rfl) fun _ _ v H115 hq => ?_
   clear H111 hd
   obtain ⟨g116, rfl, hq⟩ := hq
   replace hS : SH M X w [eO 82 tyProp q113 g116, eO 82 tyProp ([y101] : List TProp) g108, eI (tI .u8) y101.Kinds g104, eI tS y101.Words g102, eI (tI .u8) ([] : List Int) (.nil), eO 9 tS ([[116, 111, 112], [114, 105, 103, 104, 116], [98, 111, 116, 116, 111, 109], [108, 101, 102, 116]] : List Str) g82, eB b9 [vU 2, vN, vI 0, vU 0, vU 0, vU 0, vU 0], eB b6 [vU y3.Kind, vS y3.Word, vI y3.Num, vU y3.Color.Red, vU y3.Color.Green, vU y3.Color.Blue, vU y3.Color.Alpha], gE1] _ := hS.join [5, 0] [1, 2, 3, 4, 6, 7, 8] rfl rfl hq
   clear hq
   refine wl_batch 7 8 [] [1, 2, 3, 24, 25, 26] [(1, [], vP b6), (2, [], vP b9), (3, [], vL g116 q113), (24, [], .slice g82.a 4 g82.c), (25, [], vI 4), (26, [], vI v90)] [] H115 (by decide) (by kernel_rfl) trivial fun _ _ H118 hb => ?_
   replace hS := hS.below hb
   clear H115 hb
   refine wl_end rfl ?_
   replace hS : SH M X w [eO 82 tyProp q113 g116, eO 9 tS ([[116, 111, 112], [114, 105, 103, 104, 116], [98, 111, 116, 116, 111, 109], [108, 101, 102, 116]] : List Str) g82, eB b9 [vU 2, vN, vI 0, vU 0, vU 0, vU 0, vU 0], eB b6 [vU y3.Kind, vS y3.Word, vI y3.Num, vU y3.Color.Red, vU y3.Color.Green, vU y3.Color.Blue, vU y3.Color.Alpha], gE1] _ := hS.sel [0, 5, 6, 7, 8] rfl
   refine w_reg [] [1, 2, 3, 24, 25, 26] [(1, [], vP b6), (2, [], vP b9), (3, [], vL g116 q113), (24, [], .slice g82.a 4 g82.c), (25, [], vI 4), (26, [], vI (w64 (v90 + 1)))] [] H118 (by kernel_rfl) trivial fun _ _ H120 hb => ?_
   replace hS := hS.below hb
   clear H118 hb
   replace hS : SH M X w [eO 9 tS ([[116, 111, 112], [114, 105, 103, 104, 116], [98, 111, 116, 116, 111, 109], [108, 101, 102, 116]] : List Str) g82, eO 82 tyProp q113 g116, eB b9 [vU 2, vN, vI 0, vU 0, vU 0, vU 0, vU 0], eB b6 [vU y3.Kind, vS y3.Word, vI y3.Num, vU y3.Color.Red, vU y3.Color.Green, vU y3.Color.Blue, vU y3.Color.Alpha], gE1] _ := hS.sel [1, 0, 2, 3, 4] rfl
   exact ⟨_, Nat.lt_succ_self _, q113, w64 (v90 + 1), g116, hm, FrG.keep (ks := [1, 2, 24, 25, 3, 26]) H120 (by kernel_rfl), hS⟩
 ·rintro _ _ ⟨g123, H, hS⟩
  replace hS : SH M X w [eO 82 tyProp z81 g123, eB b6 [vU y3.Kind, vS y3.Word, vI y3.Num, vU y3.Color.Red, vU y3.Color.Green, vU y3.Color.Blue, vU y3.Color.Alpha], gE1] _ := hS.sel [0, 2, 3] rfl
  obtain ⟨y126, hy126, hm⟩ := bindE hm
  obtain ⟨y131, hy131, hm⟩ := letE hm
  obtain ⟨y134, hy134, hm⟩ := bindE hm
  obtain ⟨y139, hy139, hm⟩ := bindE hm
  obtain ⟨ho154, hm⟩ := chkE hm
  obtain ⟨q155, hq155, hm⟩ := letE hm
  refine s_drawS (base := [(1, [], vP b6), (3, [], vL g123 z81)]) (L := [eO 82 tyProp z81 g123, eB b6 [vU y3.Kind, vS y3.Word, vI y3.Num, vU y3.Color.Red, vU y3.Color.Green, vU y3.Color.Blue, vU y3.Color.Alpha], gE1]) 20 3 (fun yg124 => [vL g123 z81, vG [vU 2, vN, vI 16000, vU 0, vU 0, vU 0, vU 0], vG [vS y126.Name, vB y126.Inherited, vU y126.Initial.Kind, vS y126.Initial.Word, vI y126.Initial.Num, vU y126.Initial.Color.Red, vU y126.Initial.Color.Green, vU y126.Initial.Color.Blue, vU y126.Initial.Color.Alpha, .slice (yg124 2 0).a y126.Words.length (yg124 2 0).c, .slice (yg124 2 1).a y126.Kinds.length (yg124 2 1).c, vB y126.Least], vG [vU y131.Kind, vS y131.Word, vI y131.Num, vU y131.Color.Red, vU y131.Color.Green, vU y131.Color.Blue, vU y131.Color.Alpha], .slice (yg124 4 0).a 1 (yg124 4 0).c, vG [vS y134.Name, vB y134.Inherited, vU y134.Initial.Kind, vS y134.Initial.Word, vI y134.Initial.Num, vU y134.Initial.Color.Red, vU y134.Initial.Color.Green, vU y134.Initial.Color.Blue, vU y134.Initial.Color.Alpha, .slice (yg124 5 0).a y134.Words.length (yg124 5 0).c, .slice (yg124 5 1).a y134.Kinds.length (yg124 5 1).c, vB y134.Least], vG [vS y139.Name, vB y139.Inherited, vU y139.Initial.Kind, vS y139.Initial.Word, vI y139.Initial.Num, vU y139.Initial.Color.Red, vU y139.Initial.Color.Green, vU y139.Initial.Color.Blue, vU y139.Initial.Color.Alpha, .slice (yg124 6 0).a y139.Words.length (yg124 6 0).c, .slice (yg124 6 1).a y139.Kinds.length (yg124 6 1).c, vB y139.Least], vG [vU 5, vN, vI 1000, vU 0, vU 0, vU 0, vU 0], .slice (yg124 8 0).a 1 (yg124 8 0).c, vG [vS [111, 112, 97, 99, 105, 116, 121], vF, vU 5, vN, vI 1000, vU 0, vU 0, vU 0, vU 0, vO, .slice (yg124 8 0).a 1 (yg124 8 0).c, vF], vG [vU y3.Kind, vS y3.Word, vI y3.Num, vU y3.Color.Red, vU y3.Color.Green, vU y3.Color.Blue, vU y3.Color.Alpha], .slice (yg124 11 0).a 1 (yg124 11 0).c, .slice (yg124 12 0).a 1 (yg124 12 0).c, vG [vS [122, 45, 105, 110, 100, 101, 120], vF, vU y3.Kind, vS y3.Word, vI y3.Num, vU y3.Color.Red, vU y3.Color.Green, vU y3.Color.Blue, vU y3.Color.Alpha, .slice (yg124 11 0).a 1 (yg124 11 0).c, .slice (yg124 12 0).a 1 (yg124 12 0).c, vF], vG [vU 6, vN, vI 0, vU 0, vU 0, vU 0, vU 0], .slice (yg124 15 0).a 1 (yg124 15 0).c, vG [vS [111, 114, 100, 101, 114], vF, vU 6, vN, vI 0, vU 0, vU 0, vU 0, vU 0, vO, .slice (yg124 15 0).a 1 (yg124 15 0).c, vF], .slice (yg124 17 0).a 6 (yg124 17 0).c, .slice (yg124 18 0).a q155.length (yg124 18 0).c, .slice (yg124 18 0).a q155.length (yg124 18 0).c]) (fun yg124 => [[], [], [eO 9 tS y126.Words (yg124 2 0), eO 5 (tI .u8) y126.Kinds (yg124 2 1), eI (tI .u8) ([] : List Int) (.nil)], [], [eO 5 (tI .u8) ([5] : List Int) (yg124 4 0)], [eO 9 tS y134.Words (yg124 5 0), eO 5 (tI .u8) y134.Kinds (yg124 5 1), eI (tI .u8) ([5] : List Int) (yg124 4 0)], [eO 9 tS y139.Words (yg124 6 0), eO 5 (tI .u8) y139.Kinds (yg124 6 1)], [], [eO 5 (tI .u8) ([5] : List Int) (yg124 8 0)], [], [], [eO 9 tS ([[97, 117, 116, 111]] : List Str) (yg124 11 0)], [eO 5 (tI .u8) ([6] : List Int) (yg124 12 0)], [], [], [eO 5 (tI .u8) ([6] : List Int) (yg124 15 0)], [], [eO 82 tyProp ([y126, y134, y139, (TProp.mk [111, 112, 97, 99, 105, 116, 121] false (TVal.mk 5 [] 1000 (TColor.mk 0 0 0 0)) [] ([5] : List Int) false), (TProp.mk [122, 45, 105, 110, 100, 101, 120] false y3 ([[97, 117, 116, 111]] : List Str) ([6] : List Int) false), (TProp.mk [111, 114, 100, 101, 114] false (TVal.mk 6 [] 0 (TColor.mk 0 0 0 0)) [] ([6] : List Int) false)] : List TProp) (yg124 17 0), eI (tI .u8) ([6] : List Int) (yg124 15 0), eI (tI .u8) ([6] : List Int) (yg124 12 0), eI tS ([[97, 117, 116, 111]] : List Str) (yg124 11 0), eI (tI .u8) ([5] : List Int) (yg124 8 0), eI (tI .u8) y139.Kinds (yg124 6 1), eI tS y139.Words (yg124 6 0), eI (tI .u8) y134.Kinds (yg124 5 1), eI tS y134.Words (yg124 5 0), eI (tI .u8) y126.Kinds (yg124 2 1), eI tS y126.Words (yg124 2 0), eI (tI .u8) ([] : List Int) (.nil), eI (tI .u8) ([5] : List Int) (yg124 4 0)], [eO 82 tyProp q155 (yg124 18 0)], []]) [[20], [], [22], [], [], [4, 22], [22], [], [], [8], [21], [], [], [11, 12], [], [], [15], [2, 5, 6, 8, 11, 12, 15], [17, 20], [18]] [[], [], [], [], [], [4], [], [], [], [], [], [], [], [], [], [], [], [2, 5, 6, 8, 11, 12, 15], [20], []] [[0], [1], [1, 2], [3], [4], [3, 4, 5], [6], [7], [8], [7, 8, 9], [10], [11], [12], [10, 11, 12, 13], [14], [15], [14, 15, 16], [1, 2, 3, 4, 5, 6, 7, 8, 9, 10, 11, 12, 13, 14, 15, 16, 17], [0, 1, 2, 3, 4, 5, 6, 7, 8, 9, 10, 11, 12, 13, 14, 15, 16, 17, 18], [0, 1, 2, 3, 4, 5, 6, 7, 8, 9, 10, 11, 12, 13, 14, 15, 16, 17, 18, 19]] [] (FrG.keep (ks := [1, 3]) H (by kernel_rfl)) (fun _ _ h => by cases h) (by kernel_rfl) hS (by kernel_rfl) rfl rfl (by kernel_rfl) (by kernel_rfl) (by kernel_rfl) (gd_none (by kernel_rfl) _ _) ?hloc_yg124 ?hstep_yg124 fun _ _ yg124 H158 hv hS => ?hK_yg124
  case hloc_yg124 => exact ⟨(fun _ _ _ _ => ⟨rfl, rfl⟩), (fun _ _ _ _ => ⟨rfl, rfl⟩), (fun _ i g hi => lcG [2] (fun yg124 => (vG [vS y126.Name, vB y126.Inherited, vU y126.Initial.Kind, vS y126.Initial.Word, vI y126.Initial.Num, vU y126.Initial.Color.Red, vU y126.Initial.Color.Green, vU y126.Initial.Color.Blue, vU y126.Initial.Color.Alpha, .slice (yg124 2 0).a y126.Words.length (yg124 2 0).c, .slice (yg124 2 1).a y126.Kinds.length (yg124 2 1).c, vB y126.Least], [eO 9 tS y126.Words (yg124 2 0), eO 5 (tI .u8) y126.Kinds (yg124 2 1), eI (tI .u8) ([] : List Int) (.nil)])) hi rfl), (fun _ _ _ _ => ⟨rfl, rfl⟩), (fun _ i g hi => lcG [4] (fun yg124 => (.slice (yg124 4 0).a 1 (yg124 4 0).c, [eO 5 (tI .u8) ([5] : List Int) (yg124 4 0)])) hi rfl), (fun _ i g hi => lcG [4, 5] (fun yg124 => (vG [vS y134.Name, vB y134.Inherited, vU y134.Initial.Kind, vS y134.Initial.Word, vI y134.Initial.Num, vU y134.Initial.Color.Red, vU y134.Initial.Color.Green, vU y134.Initial.Color.Blue, vU y134.Initial.Color.Alpha, .slice (yg124 5 0).a y134.Words.length (yg124 5 0).c, .slice (yg124 5 1).a y134.Kinds.length (yg124 5 1).c, vB y134.Least], [eO 9 tS y134.Words (yg124 5 0), eO 5 (tI .u8) y134.Kinds (yg124 5 1), eI (tI .u8) ([5] : List Int) (yg124 4 0)])) hi rfl), (fun _ i g hi => lcG [6] (fun yg124 => (vG [vS y139.Name, vB y139.Inherited, vU y139.Initial.Kind, vS y139.Initial.Word, vI y139.Initial.Num, vU y139.Initial.Color.Red, vU y139.Initial.Color.Green, vU y139.Initial.Color.Blue, vU y139.Initial.Color.Alpha, .slice (yg124 6 0).a y139.Words.length (yg124 6 0).c, .slice (yg124 6 1).a y139.Kinds.length (yg124 6 1).c, vB y139.Least], [eO 9 tS y139.Words (yg124 6 0), eO 5 (tI .u8) y139.Kinds (yg124 6 1)])) hi rfl), (fun _ _ _ _ => ⟨rfl, rfl⟩), (fun _ i g hi => lcG [8] (fun yg124 => (.slice (yg124 8 0).a 1 (yg124 8 0).c, [eO 5 (tI .u8) ([5] : List Int) (yg124 8 0)])) hi rfl), (fun _ i g hi => lcG [8] (fun yg124 => (vG [vS [111, 112, 97, 99, 105, 116, 121], vF, vU 5, vN, vI 1000, vU 0, vU 0, vU 0, vU 0, vO, .slice (yg124 8 0).a 1 (yg124 8 0).c, vF], [])) hi rfl), (fun _ _ _ _ => ⟨rfl, rfl⟩), (fun _ i g hi => lcG [11] (fun yg124 => (.slice (yg124 11 0).a 1 (yg124 11 0).c, [eO 9 tS ([[97, 117, 116, 111]] : List Str) (yg124 11 0)])) hi rfl), (fun _ i g hi => lcG [12] (fun yg124 => (.slice (yg124 12 0).a 1 (yg124 12 0).c, [eO 5 (tI .u8) ([6] : List Int) (yg124 12 0)])) hi rfl), (fun _ i g hi => lcG [11, 12] (fun yg124 => (vG [vS [122, 45, 105, 110, 100, 101, 120], vF, vU y3.Kind, vS y3.Word, vI y3.Num, vU y3.Color.Red, vU y3.Color.Green, vU y3.Color.Blue, vU y3.Color.Alpha, .slice (yg124 11 0).a 1 (yg124 11 0).c, .slice (yg124 12 0).a 1 (yg124 12 0).c, vF], [])) hi rfl), (fun _ _ _ _ => ⟨rfl, rfl⟩), (fun _ i g hi => lcG [15] (fun yg124 => (.slice (yg124 15 0).a 1 (yg124 15 0).c, [eO 5 (tI .u8) ([6] : List Int) (yg124 15 0)])) hi rfl), (fun _ i g hi => lcG [15] (fun yg124 => (vG [vS [111, 114, 100, 101, 114], vF, vU 6, vN, vI 0, vU 0, vU 0, vU 0, vU 0, vO, .slice (yg124 15 0).a 1 (yg124 15 0).c, vF], [])) hi rfl), (fun _ i g hi => lcG [2, 4, 5, 6, 8, 11, 12, 15, 17] (fun yg124 => (.slice (yg124 17 0).a 6 (yg124 17 0).c, [eO 82 tyProp ([y126, y134, y139, (TProp.mk [111, 112, 97, 99, 105, 116, 121] false (TVal.mk 5 [] 1000 (TColor.mk 0 0 0 0)) [] ([5] : List Int) false), (TProp.mk [122, 45, 105, 110, 100, 101, 120] false y3 ([[97, 117, 116, 111]] : List Str) ([6] : List Int) false), (TProp.mk [111, 114, 100, 101, 114] false (TVal.mk 6 [] 0 (TColor.mk 0 0 0 0)) [] ([6] : List Int) false)] : List TProp) (yg124 17 0), eI (tI .u8) ([6] : List Int) (yg124 15 0), eI (tI .u8) ([6] : List Int) (yg124 12 0), eI tS ([[97, 117, 116, 111]] : List Str) (yg124 11 0), eI (tI .u8) ([5] : List Int) (yg124 8 0), eI (tI .u8) y139.Kinds (yg124 6 1), eI tS y139.Words (yg124 6 0), eI (tI .u8) y134.Kinds (yg124 5 1), eI tS y134.Words (yg124 5 0), eI (tI .u8) y126.Kinds (yg124 2 1), eI tS y126.Words (yg124 2 0), eI (tI .u8) ([] : List Int) (.nil), eI (tI .u8) ([5] : List Int) (yg124 4 0)])) hi rfl), (fun _ i g hi => lcG [18] (fun yg124 => (.slice (yg124 18 0).a q155.length (yg124 18 0).c, [eO 82 tyProp q155 (yg124 18 0)])) hi rfl), (fun _ i g hi => lcG [18] (fun yg124 => (.slice (yg124 18 0).a q155.length (yg124 18 0).c, [])) hi rfl), trivial⟩
  case hstep_yg124 =>
   refine ⟨?_, ?_, ?_, ?_, ?_, ?_, ?_, ?_, ?_, ?_, ?_, ?_, ?_, ?_, ?_, ?_, ?_, ?_, ?_, ?_, trivial⟩
   ·intro o ho a w yg124 M Hb hv hO hS
    obtain rfl := Option.some.inj ho
    exact Stp.mono (o_evs [] (vL g123 z81) none [] Hb rfl (by kernel_rfl) (fun q e => by cases e)) fun _ _ hq => ⟨gL [], fun _ _ => hq.1, (hS.below hq.2.below).sel [0] rfl⟩
   ·intro o ho a w yg124 M Hb hv hO hS
    obtain rfl := Option.some.inj ho
    exact Stp.mono (o_evs [] (vG [vU 2, vN, vI 16000, vU 0, vU 0, vU 0, vU 0]) none [] Hb rfl (by kernel_rfl) (fun q e => by cases e)) fun _ _ hq => ⟨gL [], fun _ _ => hq.1, (hS.below hq.2.below).sel [] rfl⟩
   ·intro o ho a w yg124 M Hb hv hO hS0
    obtain rfl := Option.some.inj ho
    have H : Fr 57 ([(39, [], vG [vU 2, vN, vI 16000, vU 0, vU 0, vU 0, vU 0])] ++ [(1, [], vP b6), (3, [], vL g123 z81)]) _ := (Hb).add (hv 1 (by decide) (by decide) 39 rfl)
    obtain ⟨X, hX⟩ : ∃ X, X = fpl [gE1] := ⟨_, rfl⟩
    have hS : SH M X w [gE1] w := by rw [hX]; exact hS0
    replace hS : SH M X w [eO 5 (tI .u8) ([] : List Int) (.nil), gE1] _ := hS.addNil 5 (tI .u8)
    replace hS : SH M X w [eI (tI .u8) ([] : List Int) (.nil), gE1] _ := SH.frz1 (hS.sel [0, 1] rfl)
    have hd := hS.hand [0, 1] [0, 1] rfl rfl
    refine Stp.mono (o_callx H rfl rfl (props_length_ok (g_more := Gh.nil) m _ _ _ _ _ _ _ hy126 _ _ hd)) ?_
    rintro v w2 hq
    obtain ⟨g127, g129, rfl, hq⟩ := hq
    replace hS : SH M X w [eO 9 tS y126.Words g127, eO 5 (tI .u8) y126.Kinds g129, eI (tI .u8) ([] : List Int) (.nil), gE1] _ := hS.join [0, 1] [0, 1] rfl rfl hq
    clear hq
    rw [hX] at hS
    exact ⟨gL [g127, g129], fun _ _ => rfl, hS.sel [0, 1, 2, 3] rfl⟩
   ·intro o ho a w yg124 M Hb hv hO hS
    obtain rfl := Option.some.inj ho
    exact Stp.mono (o_evs [(vG [vU y131.Kind, vS y131.Word, vI y131.Num, vU y131.Color.Red, vU y131.Color.Green, vU y131.Color.Blue, vU y131.Color.Alpha])] (vG [vU y131.Kind, vS y131.Word, vI y131.Num, vU y131.Color.Red, vU y131.Color.Green, vU y131.Color.Blue, vU y131.Color.Alpha]) (some (rB 58 [vS [110, 111, 114, 109, 97, 108]] (vG [vU y131.Kind, vS y131.Word, vI y131.Num, vU y131.Color.Red, vU y131.Color.Green, vU y131.Color.Blue, vU y131.Color.Alpha]))) [] Hb rfl (by subst hy131; kernel_rfl) (fun q e => by cases e; exact ((by rw [hy131]; exact (props_word_ok _).b)))) fun _ _ hq => ⟨gL [], fun _ _ => hq.1, (hS.below hq.2.below).sel [] rfl⟩
   ·intro o ho a w yg124 M Hb hv hO hS0
    obtain rfl := Option.some.inj ho
    have H : Fr 57 ([] ++ [(1, [], vP b6), (3, [], vL g123 z81)]) _ := Hb
    obtain ⟨X, hX⟩ : ∃ X, X = fpl [] := ⟨_, rfl⟩
    have hS : SH M X w [] w := by rw [hX]; exact hS0
    have hd := hS.hand [] [] rfl rfl
    refine Stp.mono (o_lit (T := (tI .u8)) (E := 5) (zv := vU 0) [vU 5] ([5] : List Int) [gL []] _ H hd rfl (by kernel_rfl) (by kernel_rfl) (by kernel_rfl) (by kernel_rfl) (by kernel_rfl) (by kernel_rfl) (by kernel_rfl) rfl (InnL.cons trivial InnL.nil)) ?_
    rintro v w2 hq
    obtain ⟨g132, rfl, hq⟩ := hq
    replace hS : SH M X w [eO 5 (tI .u8) ([5] : List Int) g132] _ := hS.join [] [] rfl rfl hq
    clear hq
    rw [hX] at hS
    exact ⟨gL [g132], fun _ _ => rfl, hS.sel [0] rfl⟩
   ·intro o ho a w yg124 M Hb hv hO hS0
    obtain rfl := Option.some.inj ho
    have H : Fr 57 ([(42, [], .slice (yg124 4 0).a 1 (yg124 4 0).c), (41, [], vG [vU y131.Kind, vS y131.Word, vI y131.Num, vU y131.Color.Red, vU y131.Color.Green, vU y131.Color.Blue, vU y131.Color.Alpha])] ++ [(1, [], vP b6), (3, [], vL g123 z81)]) _ := ((Hb).add (hv 3 (by decide) (by decide) 41 rfl)).add (hv 4 (by decide) (by decide) 42 rfl)
    obtain ⟨X, hX⟩ : ∃ X, X = fpl [eO 5 (tI .u8) ([5] : List Int) (yg124 4 0), gE1] := ⟨_, rfl⟩
    have hS : SH M X w [eO 5 (tI .u8) ([5] : List Int) (yg124 4 0), gE1] w := by rw [hX]; exact hS0
    replace hS : SH M X w [eI (tI .u8) ([5] : List Int) (yg124 4 0), gE1] _ := SH.frz1 (hS.sel [0, 1] rfl)
    have hd := hS.hand [0, 1] [0, 1] rfl rfl
    refine Stp.mono (o_callx H rfl rfl (props_length_ok (g_more := (yg124 4 0)) m _ _ _ _ _ _ _ hy134 _ _ hd)) ?_
    rintro v w2 hq
    obtain ⟨g135, g137, rfl, hq⟩ := hq
    replace hS : SH M X w [eO 9 tS y134.Words g135, eO 5 (tI .u8) y134.Kinds g137, eI (tI .u8) ([5] : List Int) (yg124 4 0), gE1] _ := hS.join [0, 1] [0, 1] rfl rfl hq
    clear hq
    rw [hX] at hS
    exact ⟨gL [g135, g137], fun _ _ => rfl, hS.sel [0, 1, 2, 3] rfl⟩
   ·intro o ho a w yg124 M Hb hv hO hS0
    obtain rfl := Option.some.inj ho
    have H : Fr 57 ([] ++ [(1, [], vP b6), (3, [], vL g123 z81)]) _ := Hb
    obtain ⟨X, hX⟩ : ∃ X, X = fpl [gE1] := ⟨_, rfl⟩
    have hS : SH M X w [gE1] w := by rw [hX]; exact hS0
    have hd := hS.hand [0] [0] rfl rfl
    refine Stp.mono (o_callx H rfl rfl (props_words_ok m _ _ _ _ _ hy139 _ _ hd)) ?_
    rintro v w2 hq
    obtain ⟨g140, g142, rfl, hq⟩ := hq
    replace hS : SH M X w [eO 9 tS y139.Words g140, eO 5 (tI .u8) y139.Kinds g142, gE1] _ := hS.join [0] [0] rfl rfl hq
    clear hq
    rw [hX] at hS
    exact ⟨gL [g140, g142], fun _ _ => rfl, hS.sel [0, 1, 2] rfl⟩
   ·intro o ho a w yg124 M Hb hv hO hS
    obtain rfl := Option.some.inj ho
    exact Stp.mono (o_evs [] (vG [vU 5, vN, vI 1000, vU 0, vU 0, vU 0, vU 0]) none [] Hb rfl (by kernel_rfl) (fun q e => by cases e)) fun _ _ hq => ⟨gL [], fun _ _ => hq.1, (hS.below hq.2.below).sel [] rfl⟩
   ·intro o ho a w yg124 M Hb hv hO hS0
    obtain rfl := Option.some.inj ho
    have H : Fr 57 ([] ++ [(1, [], vP b6), (3, [], vL g123 z81)]) _ := Hb
    obtain ⟨X, hX⟩ : ∃ X, X = fpl [] := ⟨_, rfl⟩
    have hS : SH M X w [] w := by rw [hX]; exact hS0
    have hd := hS.hand [] [] rfl rfl
    refine Stp.mono (o_lit (T := (tI .u8)) (E := 5) (zv := vU 0) [vU 5] ([5] : List Int) [gL []] _ H hd rfl (by kernel_rfl) (by kernel_rfl) (by kernel_rfl) (by kernel_rfl) (by kernel_rfl) (by kernel_rfl) (by kernel_rfl) rfl (InnL.cons trivial InnL.nil)) ?_
    rintro v w2 hq
    obtain ⟨g144, rfl, hq⟩ := hq
    replace hS : SH M X w [eO 5 (tI .u8) ([5] : List Int) g144] _ := hS.join [] [] rfl rfl hq
    clear hq
    rw [hX] at hS
    exact ⟨gL [g144], fun _ _ => rfl, hS.sel [0] rfl⟩
   ·intro o ho a w yg124 M Hb hv hO hS
    obtain rfl := Option.some.inj ho
    exact Stp.mono (o_evs [] (vG [vS [111, 112, 97, 99, 105, 116, 121], vF, vU 5, vN, vI 1000, vU 0, vU 0, vU 0, vU 0, vO, .slice (yg124 8 0).a 1 (yg124 8 0).c, vF]) none [] (((Hb).add (hv 7 (by decide) (by decide) 45 rfl)).add (hv 8 (by decide) (by decide) 46 rfl)) rfl (by kernel_rfl) (fun q e => by cases e)) fun _ _ hq => ⟨gL [], fun _ _ => hq.1, (hS.below hq.2.below).sel [0] rfl⟩
   ·intro o ho a w yg124 M Hb hv hO hS
    obtain rfl := Option.some.inj ho
    exact Stp.mono (o_evs [(vG [vU y3.Kind, vS y3.Word, vI y3.Num, vU y3.Color.Red, vU y3.Color.Green, vU y3.Color.Blue, vU y3.Color.Alpha])] (vG [vU y3.Kind, vS y3.Word, vI y3.Num, vU y3.Color.Red, vU y3.Color.Green, vU y3.Color.Blue, vU y3.Color.Alpha]) (some (rN b6 0 [vU y3.Kind, vS y3.Word, vI y3.Num, vU y3.Color.Red, vU y3.Color.Green, vU y3.Color.Blue, vU y3.Color.Alpha])) [] Hb rfl (by kernel_rfl) (fun q e => by cases e; exact ((hS.bk 0 rfl).atD rfl))) fun _ _ hq => ⟨gL [], fun _ _ => hq.1, (hS.below hq.2.below).sel [0] rfl⟩
   ·intro o ho a w yg124 M Hb hv hO hS0
    obtain rfl := Option.some.inj ho
    have H : Fr 57 ([] ++ [(1, [], vP b6), (3, [], vL g123 z81)]) _ := Hb
    obtain ⟨X, hX⟩ : ∃ X, X = fpl [] := ⟨_, rfl⟩
    have hS : SH M X w [] w := by rw [hX]; exact hS0
    have hd := hS.hand [] [] rfl rfl
    refine Stp.mono (o_lit (T := tS) (E := 9) (zv := vN) [vS [97, 117, 116, 111]] ([[97, 117, 116, 111]] : List Str) [gL []] _ H hd rfl (by kernel_rfl) (by kernel_rfl) (by kernel_rfl) (by kernel_rfl) (by kernel_rfl) (by kernel_rfl) (by kernel_rfl) rfl (InnL.cons trivial InnL.nil)) ?_
    rintro v w2 hq
    obtain ⟨g146, rfl, hq⟩ := hq
    replace hS : SH M X w [eO 9 tS ([[97, 117, 116, 111]] : List Str) g146] _ := hS.join [] [] rfl rfl hq
    clear hq
    rw [hX] at hS
    exact ⟨gL [g146], fun _ _ => rfl, hS.sel [0] rfl⟩
   ·intro o ho a w yg124 M Hb hv hO hS0
    obtain rfl := Option.some.inj ho
    have H : Fr 57 ([] ++ [(1, [], vP b6), (3, [], vL g123 z81)]) _ := Hb
    obtain ⟨X, hX⟩ : ∃ X, X = fpl [] := ⟨_, rfl⟩
    have hS : SH M X w [] w := by rw [hX]; exact hS0
    have hd := hS.hand [] [] rfl rfl
    refine Stp.mono (o_lit (T := (tI .u8)) (E := 5) (zv := vU 0) [vU 6] ([6] : List Int) [gL []] _ H hd rfl (by kernel_rfl) (by kernel_rfl) (by kernel_rfl) (by kernel_rfl) (by kernel_rfl) (by kernel_rfl) (by kernel_rfl) rfl (InnL.cons trivial InnL.nil)) ?_
    rintro v w2 hq
    obtain ⟨g148, rfl, hq⟩ := hq
    replace hS : SH M X w [eO 5 (tI .u8) ([6] : List Int) g148] _ := hS.join [] [] rfl rfl hq
    clear hq
    rw [hX] at hS
    exact ⟨gL [g148], fun _ _ => rfl, hS.sel [0] rfl⟩
   ·intro o ho a w yg124 M Hb hv hO hS
    obtain rfl := Option.some.inj ho
    exact Stp.mono (o_evs [] (vG [vS [122, 45, 105, 110, 100, 101, 120], vF, vU y3.Kind, vS y3.Word, vI y3.Num, vU y3.Color.Red, vU y3.Color.Green, vU y3.Color.Blue, vU y3.Color.Alpha, .slice (yg124 11 0).a 1 (yg124 11 0).c, .slice (yg124 12 0).a 1 (yg124 12 0).c, vF]) none [] ((((Hb).add (hv 10 (by decide) (by decide) 48 rfl)).add (hv 11 (by decide) (by decide) 49 rfl)).add (hv 12 (by decide) (by decide) 50 rfl)) rfl (by kernel_rfl) (fun q e => by cases e)) fun _ _ hq => ⟨gL [], fun _ _ => hq.1, (hS.below hq.2.below).sel [0, 1] rfl⟩
   ·intro o ho a w yg124 M Hb hv hO hS
    obtain rfl := Option.some.inj ho
    exact Stp.mono (o_evs [] (vG [vU 6, vN, vI 0, vU 0, vU 0, vU 0, vU 0]) none [] Hb rfl (by kernel_rfl) (fun q e => by cases e)) fun _ _ hq => ⟨gL [], fun _ _ => hq.1, (hS.below hq.2.below).sel [] rfl⟩
   ·intro o ho a w yg124 M Hb hv hO hS0
    obtain rfl := Option.some.inj ho
    have H : Fr 57 ([] ++ [(1, [], vP b6), (3, [], vL g123 z81)]) _ := Hb
    obtain ⟨X, hX⟩ : ∃ X, X = fpl [] := ⟨_, rfl⟩
    have hS : SH M X w [] w := by rw [hX]; exact hS0
    have hd := hS.hand [] [] rfl rfl
    refine Stp.mono (o_lit (T := (tI .u8)) (E := 5) (zv := vU 0) [vU 6] ([6] : List Int) [gL []] _ H hd rfl (by kernel_rfl) (by kernel_rfl) (by kernel_rfl) (by kernel_rfl) (by kernel_rfl) (by kernel_rfl) (by kernel_rfl) rfl (InnL.cons trivial InnL.nil)) ?_
    rintro v w2 hq
    obtain ⟨g150, rfl, hq⟩ := hq
    replace hS : SH M X w [eO 5 (tI .u8) ([6] : List Int) g150] _ := hS.join [] [] rfl rfl hq
    clear hq
    rw [hX] at hS
    exact ⟨gL [g150], fun _ _ => rfl, hS.sel [0] rfl⟩
   ·intro o ho a w yg124 M Hb hv hO hS
    obtain rfl := Option.some.inj ho
    exact Stp.mono (o_evs [] (vG [vS [111, 114, 100, 101, 114], vF, vU 6, vN, vI 0, vU 0, vU 0, vU 0, vU 0, vO, .slice (yg124 15 0).a 1 (yg124 15 0).c, vF]) none [] (((Hb).add (hv 14 (by decide) (by decide) 52 rfl)).add (hv 15 (by decide) (by decide) 53 rfl)) rfl (by kernel_rfl) (fun q e => by cases e)) fun _ _ hq => ⟨gL [], fun _ _ => hq.1, (hS.below hq.2.below).sel [0] rfl⟩
   ·intro o ho a w yg124 M Hb hv hO hS0
    obtain rfl := Option.some.inj ho
    have H : Fr 57 ([(54, [], vG [vS [111, 114, 100, 101, 114], vF, vU 6, vN, vI 0, vU 0, vU 0, vU 0, vU 0, vO, .slice (yg124 15 0).a 1 (yg124 15 0).c, vF]), (51, [], vG [vS [122, 45, 105, 110, 100, 101, 120], vF, vU y3.Kind, vS y3.Word, vI y3.Num, vU y3.Color.Red, vU y3.Color.Green, vU y3.Color.Blue, vU y3.Color.Alpha, .slice (yg124 11 0).a 1 (yg124 11 0).c, .slice (yg124 12 0).a 1 (yg124 12 0).c, vF]), (47, [], vG [vS [111, 112, 97, 99, 105, 116, 121], vF, vU 5, vN, vI 1000, vU 0, vU 0, vU 0, vU 0, vO, .slice (yg124 8 0).a 1 (yg124 8 0).c, vF]), (44, [], vG [vS y139.Name, vB y139.Inherited, vU y139.Initial.Kind, vS y139.Initial.Word, vI y139.Initial.Num, vU y139.Initial.Color.Red, vU y139.Initial.Color.Green, vU y139.Initial.Color.Blue, vU y139.Initial.Color.Alpha, .slice (yg124 6 0).a y139.Words.length (yg124 6 0).c, .slice (yg124 6 1).a y139.Kinds.length (yg124 6 1).c, vB y139.Least]), (43, [], vG [vS y134.Name, vB y134.Inherited, vU y134.Initial.Kind, vS y134.Initial.Word, vI y134.Initial.Num, vU y134.Initial.Color.Red, vU y134.Initial.Color.Green, vU y134.Initial.Color.Blue, vU y134.Initial.Color.Alpha, .slice (yg124 5 0).a y134.Words.length (yg124 5 0).c, .slice (yg124 5 1).a y134.Kinds.length (yg124 5 1).c, vB y134.Least]), (40, [], vG [vS y126.Name, vB y126.Inherited, vU y126.Initial.Kind, vS y126.Initial.Word, vI y126.Initial.Num, vU y126.Initial.Color.Red, vU y126.Initial.Color.Green, vU y126.Initial.Color.Blue, vU y126.Initial.Color.Alpha, .slice (yg124 2 0).a y126.Words.length (yg124 2 0).c, .slice (yg124 2 1).a y126.Kinds.length (yg124 2 1).c, vB y126.Least])] ++ [(1, [], vP b6), (3, [], vL g123 z81)]) _ := ((((((Hb).add (hv 2 (by decide) (by decide) 40 rfl)).add (hv 5 (by decide) (by decide) 43 rfl)).add (hv 6 (by decide) (by decide) 44 rfl)).add (hv 9 (by decide) (by decide) 47 rfl)).add (hv 13 (by decide) (by decide) 51 rfl)).add (hv 16 (by decide) (by decide) 54 rfl)
    obtain ⟨X, hX⟩ : ∃ X, X = fpl [eO 9 tS y126.Words (yg124 2 0), eO 5 (tI .u8) y126.Kinds (yg124 2 1), eI (tI .u8) ([] : List Int) (.nil), eO 9 tS y134.Words (yg124 5 0), eO 5 (tI .u8) y134.Kinds (yg124 5 1), eI (tI .u8) ([5] : List Int) (yg124 4 0), eO 9 tS y139.Words (yg124 6 0), eO 5 (tI .u8) y139.Kinds (yg124 6 1), eO 5 (tI .u8) ([5] : List Int) (yg124 8 0), eO 9 tS ([[97, 117, 116, 111]] : List Str) (yg124 11 0), eO 5 (tI .u8) ([6] : List Int) (yg124 12 0), eO 5 (tI .u8) ([6] : List Int) (yg124 15 0)] := ⟨_, rfl⟩
    have hS : SH M X w [eO 9 tS y126.Words (yg124 2 0), eO 5 (tI .u8) y126.Kinds (yg124 2 1), eI (tI .u8) ([] : List Int) (.nil), eO 9 tS y134.Words (yg124 5 0), eO 5 (tI .u8) y134.Kinds (yg124 5 1), eI (tI .u8) ([5] : List Int) (yg124 4 0), eO 9 tS y139.Words (yg124 6 0), eO 5 (tI .u8) y139.Kinds (yg124 6 1), eO 5 (tI .u8) ([5] : List Int) (yg124 8 0), eO 9 tS ([[97, 117, 116, 111]] : List Str) (yg124 11 0), eO 5 (tI .u8) ([6] : List Int) (yg124 12 0), eO 5 (tI .u8) ([6] : List Int) (yg124 15 0)] w := by rw [hX]; exact hS0
    replace hS : SH M X w [eI tS y126.Words (yg124 2 0), eO 5 (tI .u8) y126.Kinds (yg124 2 1), eI (tI .u8) ([] : List Int) (.nil), eO 9 tS y134.Words (yg124 5 0), eO 5 (tI .u8) y134.Kinds (yg124 5 1), eI (tI .u8) ([5] : List Int) (yg124 4 0), eO 9 tS y139.Words (yg124 6 0), eO 5 (tI .u8) y139.Kinds (yg124 6 1), eO 5 (tI .u8) ([5] : List Int) (yg124 8 0), eO 9 tS ([[97, 117, 116, 111]] : List Str) (yg124 11 0), eO 5 (tI .u8) ([6] : List Int) (yg124 12 0), eO 5 (tI .u8) ([6] : List Int) (yg124 15 0)] _ := SH.frz1 (hS.sel [0, 1, 2, 3, 4, 5, 6, 7, 8, 9, 10, 11] rfl)
    replace hS : SH M X w [eI (tI .u8) y126.Kinds (yg124 2 1), eI tS y126.Words (yg124 2 0), eI (tI .u8) ([] : List Int) (.nil), eO 9 tS y134.Words (yg124 5 0), eO 5 (tI .u8) y134.Kinds (yg124 5 1), eI (tI .u8) ([5] : List Int) (yg124 4 0), eO 9 tS y139.Words (yg124 6 0), eO 5 (tI .u8) y139.Kinds (yg124 6 1), eO 5 (tI .u8) ([5] : List Int) (yg124 8 0), eO 9 tS ([[97, 117, 116, 111]] : List Str) (yg124 11 0), eO 5 (tI .u8) ([6] : List Int) (yg124 12 0), eO 5 (tI .u8) ([6] : List Int) (yg124 15 0)] _ := SH.frz1 (hS.sel [1, 0, 2, 3, 4, 5, 6, 7, 8, 9, 10, 11] rfl)
    replace hS : SH M X w [eI tS y134.Words (yg124 5 0), eI (tI .u8) y126.Kinds (yg124 2 1), eI tS y126.Words (yg124 2 0), eI (tI .u8) ([] : List Int) (.nil), eO 5 (tI .u8) y134.Kinds (yg124 5 1), eI (tI .u8) ([5] : List Int) (yg124 4 0), eO 9 tS y139.Words (yg124 6 0), eO 5 (tI .u8) y139.Kinds (yg124 6 1), eO 5 (tI .u8) ([5] : List Int) (yg124 8 0), eO 9 tS ([[97, 117, 116, 111]] : List Str) (yg124 11 0), eO 5 (tI .u8) ([6] : List Int) (yg124 12 0), eO 5 (tI .u8) ([6] : List Int) (yg124 15 0)] _ := SH.frz1 (hS.sel [3, 0, 1, 2, 4, 5, 6, 7, 8, 9, 10, 11] rfl)
    replace hS : SH M X w [eI (tI .u8) y134.Kinds (yg124 5 1), eI tS y134.Words (yg124 5 0), eI (tI .u8) y126.Kinds (yg124 2 1), eI tS y126.Words (yg124 2 0), eI (tI .u8) ([] : List Int) (.nil), eI (tI .u8) ([5] : List Int) (yg124 4 0), eO 9 tS y139.Words (yg124 6 0), eO 5 (tI .u8) y139.Kinds (yg124 6 1), eO 5 (tI .u8) ([5] : List Int) (yg124 8 0), eO 9 tS ([[97, 117, 116, 111]] : List Str) (yg124 11 0), eO 5 (tI .u8) ([6] : List Int) (yg124 12 0), eO 5 (tI .u8) ([6] : List Int) (yg124 15 0)] _ := SH.frz1 (hS.sel [4, 0, 1, 2, 3, 5, 6, 7, 8, 9, 10, 11] rfl)
    replace hS : SH M X w [eI tS y139.Words (yg124 6 0), eI (tI .u8) y134.Kinds (yg124 5 1), eI tS y134.Words (yg124 5 0), eI (tI .u8) y126.Kinds (yg124 2 1), eI tS y126.Words (yg124 2 0), eI (tI .u8) ([] : List Int) (.nil), eI (tI .u8) ([5] : List Int) (yg124 4 0), eO 5 (tI .u8) y139.Kinds (yg124 6 1), eO 5 (tI .u8) ([5] : List Int) (yg124 8 0), eO 9 tS ([[97, 117, 116, 111]] : List Str) (yg124 11 0), eO 5 (tI .u8) ([6] : List Int) (yg124 12 0), eO 5 (tI .u8) ([6] : List Int) (yg124 15 0)] _ := SH.frz1 (hS.sel [6, 0, 1, 2, 3, 4, 5, 7, 8, 9, 10, 11] rfl)
    replace hS : SH M X w [eI (tI .u8) y139.Kinds (yg124 6 1), eI tS y139.Words (yg124 6 0), eI (tI .u8) y134.Kinds (yg124 5 1), eI tS y134.Words (yg124 5 0), eI (tI .u8) y126.Kinds (yg124 2 1), eI tS y126.Words (yg124 2 0), eI (tI .u8) ([] : List Int) (.nil), eI (tI .u8) ([5] : List Int) (yg124 4 0), eO 5 (tI .u8) ([5] : List Int) (yg124 8 0), eO 9 tS ([[97, 117, 116, 111]] : List Str) (yg124 11 0), eO 5 (tI .u8) ([6] : List Int) (yg124 12 0), eO 5 (tI .u8) ([6] : List Int) (yg124 15 0)] _ := SH.frz1 (hS.sel [7, 0, 1, 2, 3, 4, 5, 6, 8, 9, 10, 11] rfl)
    replace hS : SH M X w [eI (tI .u8) ([5] : List Int) (yg124 8 0), eI (tI .u8) y139.Kinds (yg124 6 1), eI tS y139.Words (yg124 6 0), eI (tI .u8) y134.Kinds (yg124 5 1), eI tS y134.Words (yg124 5 0), eI (tI .u8) y126.Kinds (yg124 2 1), eI tS y126.Words (yg124 2 0), eI (tI .u8) ([] : List Int) (.nil), eI (tI .u8) ([5] : List Int) (yg124 4 0), eO 9 tS ([[97, 117, 116, 111]] : List Str) (yg124 11 0), eO 5 (tI .u8) ([6] : List Int) (yg124 12 0), eO 5 (tI .u8) ([6] : List Int) (yg124 15 0)] _ := SH.frz1 (hS.sel [8, 0, 1, 2, 3, 4, 5, 6, 7, 9, 10, 11] rfl)
    replace hS : SH M X w [eI tS ([[97, 117, 116, 111]] : List Str) (yg124 11 0), eI (tI .u8) ([5] : List Int) (yg124 8 0), eI (tI .u8) y139.Kinds (yg124 6 1), eI tS y139.Words (yg124 6 0), eI (tI .u8) y134.Kinds (yg124 5 1), eI tS y134.Words (yg124 5 0), eI (tI .u8) y126.Kinds (yg124 2 1), eI tS y126.Words (yg124 2 0), eI (tI .u8) ([] : List Int) (.nil), eI (tI .u8) ([5] : List Int) (yg124 4 0), eO 5 (tI .u8) ([6] : List Int) (yg124 12 0), eO 5 (tI .u8) ([6] : List Int) (yg124 15 0)] _ := SH.frz1 (hS.sel [9, 0, 1, 2, 3, 4, 5, 6, 7, 8, 10, 11] rfl)
    replace hS : SH M X w [eI (tI .u8) ([6] : List Int) (yg124 12 0), eI tS ([[97, 117, 116, 111]] : List Str) (yg124 11 0), eI (tI .u8) ([5] : List Int) (yg124 8 0), eI (tI .u8) y139.Kinds (yg124 6 1), eI tS y139.Words (yg124 6 0), eI (tI .u8) y134.Kinds (yg124 5 1), eI tS y134.Words (yg124 5 0), eI (tI .u8) y126.Kinds (yg124 2 1), eI tS y126.Words (yg124 2 0), eI (tI .u8) ([] : List Int) (.nil), eI (tI .u8) ([5] : List Int) (yg124 4 0), eO 5 (tI .u8) ([6] : List Int) (yg124 15 0)] _ := SH.frz1 (hS.sel [10, 0, 1, 2, 3, 4, 5, 6, 7, 8, 9, 11] rfl)
    replace hS : SH M X w [eI (tI .u8) ([6] : List Int) (yg124 15 0), eI (tI .u8) ([6] : List Int) (yg124 12 0), eI tS ([[97, 117, 116, 111]] : List Str) (yg124 11 0), eI (tI .u8) ([5] : List Int) (yg124 8 0), eI (tI .u8) y139.Kinds (yg124 6 1), eI tS y139.Words (yg124 6 0), eI (tI .u8) y134.Kinds (yg124 5 1), eI tS y134.Words (yg124 5 0), eI (tI .u8) y126.Kinds (yg124 2 1), eI tS y126.Words (yg124 2 0), eI (tI .u8) ([] : List Int) (.nil), eI (tI .u8) ([5] : List Int) (yg124 4 0)] _ := SH.frz1 (hS.sel [11, 0, 1, 2, 3, 4, 5, 6, 7, 8, 9, 10] rfl)
    have hd := hS.hand [9, 8, 7, 6, 5, 4, 3, 2, 1, 0] [0, 1, 2, 3, 4, 5, 6, 7, 8, 9, 10, 11] rfl rfl
    refine Stp.mono (o_lit (T := tyProp) (E := 82) (zv := vG [vN, vF, vU 0, vN, vI 0, vU 0, vU 0, vU 0, vU 0, vO, vO, vF]) [vS y126.Name, vB y126.Inherited, vU y126.Initial.Kind, vS y126.Initial.Word, vI y126.Initial.Num, vU y126.Initial.Color.Red, vU y126.Initial.Color.Green, vU y126.Initial.Color.Blue, vU y126.Initial.Color.Alpha, .slice (yg124 2 0).a y126.Words.length (yg124 2 0).c, .slice (yg124 2 1).a y126.Kinds.length (yg124 2 1).c, vB y126.Least, vS y134.Name, vB y134.Inherited, vU y134.Initial.Kind, vS y134.Initial.Word, vI y134.Initial.Num, vU y134.Initial.Color.Red, vU y134.Initial.Color.Green, vU y134.Initial.Color.Blue, vU y134.Initial.Color.Alpha, .slice (yg124 5 0).a y134.Words.length (yg124 5 0).c, .slice (yg124 5 1).a y134.Kinds.length (yg124 5 1).c, vB y134.Least, vS y139.Name, vB y139.Inherited, vU y139.Initial.Kind, vS y139.Initial.Word, vI y139.Initial.Num, vU y139.Initial.Color.Red, vU y139.Initial.Color.Green, vU y139.Initial.Color.Blue, vU y139.Initial.Color.Alpha, .slice (yg124 6 0).a y139.Words.length (yg124 6 0).c, .slice (yg124 6 1).a y139.Kinds.length (yg124 6 1).c, vB y139.Least, vS [111, 112, 97, 99, 105, 116, 121], vF, vU 5, vN, vI 1000, vU 0, vU 0, vU 0, vU 0, vO, .slice (yg124 8 0).a 1 (yg124 8 0).c, vF, vS [122, 45, 105, 110, 100, 101, 120], vF, vU y3.Kind, vS y3.Word, vI y3.Num, vU y3.Color.Red, vU y3.Color.Green, vU y3.Color.Blue, vU y3.Color.Alpha, .slice (yg124 11 0).a 1 (yg124 11 0).c, .slice (yg124 12 0).a 1 (yg124 12 0).c, vF, vS [111, 114, 100, 101, 114], vF, vU 6, vN, vI 0, vU 0, vU 0, vU 0, vU 0, vO, .slice (yg124 15 0).a 1 (yg124 15 0).c, vF] ([y126, y134, y139, (TProp.mk [111, 112, 97, 99, 105, 116, 121] false (TVal.mk 5 [] 1000 (TColor.mk 0 0 0 0)) [] ([5] : List Int) false), (TProp.mk [122, 45, 105, 110, 100, 101, 120] false y3 ([[97, 117, 116, 111]] : List Str) ([6] : List Int) false), (TProp.mk [111, 114, 100, 101, 114] false (TVal.mk 6 [] 0 (TColor.mk 0 0 0 0)) [] ([6] : List Int) false)] : List TProp) [gL [(yg124 2 0), (yg124 2 1)], gL [(yg124 5 0), (yg124 5 1)], gL [(yg124 6 0), (yg124 6 1)], gL [Gh.nil, (yg124 8 0)], gL [(yg124 11 0), (yg124 12 0)], gL [Gh.nil, (yg124 15 0)]] _ H hd rfl (by kernel_rfl) (by kernel_rfl) (by kernel_rfl) (by kernel_rfl) (by kernel_rfl) (by kernel_rfl) (by kernel_rfl) rfl (InnL.cons (tyProp_mk (hd.im 0 rfl) (hd.im 1 rfl)) (InnL.cons (tyProp_mk (hd.im 2 rfl) (hd.im 3 rfl)) (InnL.cons (tyProp_mk (hd.im 4 rfl) (hd.im 5 rfl)) (InnL.cons (tyProp_mk SlG.nil (hd.im 6 rfl)) (InnL.cons (tyProp_mk (hd.im 7 rfl) (hd.im 8 rfl)) (InnL.cons (tyProp_mk SlG.nil (hd.im 9 rfl)) InnL.nil))))))) ?_
    rintro v w2 hq
    obtain ⟨g152, rfl, hq⟩ := hq
    replace hS : SH M X w [eO 82 tyProp ([y126, y134, y139, (TProp.mk [111, 112, 97, 99, 105, 116, 121] false (TVal.mk 5 [] 1000 (TColor.mk 0 0 0 0)) [] ([5] : List Int) false), (TProp.mk [122, 45, 105, 110, 100, 101, 120] false y3 ([[97, 117, 116, 111]] : List Str) ([6] : List Int) false), (TProp.mk [111, 114, 100, 101, 114] false (TVal.mk 6 [] 0 (TColor.mk 0 0 0 0)) [] ([6] : List Int) false)] : List TProp) g152, eI (tI .u8) ([6] : List Int) (yg124 15 0), eI (tI .u8) ([6] : List Int) (yg124 12 0), eI tS ([[97, 117, 116, 111]] : List Str) (yg124 11 0), eI (tI .u8) ([5] : List Int) (yg124 8 0), eI (tI .u8) y139.Kinds (yg124 6 1), eI tS y139.Words (yg124 6 0), eI (tI .u8) y134.Kinds (yg124 5 1), eI tS y134.Words (yg124 5 0), eI (tI .u8) y126.Kinds (yg124 2 1), eI tS y126.Words (yg124 2 0), eI (tI .u8) ([] : List Int) (.nil), eI (tI .u8) ([5] : List Int) (yg124 4 0)] _ := hS.join [9, 8, 7, 6, 5, 4, 3, 2, 1, 0] [0, 1, 2, 3, 4, 5, 6, 7, 8, 9, 10, 11] rfl rfl hq
    clear hq
    rw [hX] at hS
    exact ⟨gL [g152], fun _ _ => rfl, hS.sel [0, 1, 2, 3, 4, 5, 6, 7, 8, 9, 10, 11, 12] rfl⟩
   ·intro o ho a w yg124 M Hb hv hO hS0
    obtain rfl := Option.some.inj ho
    have H : Fr 57 ([(55, [], .slice (yg124 17 0).a 6 (yg124 17 0).c), (38, [], vL g123 z81)] ++ [(1, [], vP b6), (3, [], vL g123 z81)]) _ := ((Hb).add (hv 0 (by decide) (by decide) 38 rfl)).add (hv 17 (by decide) (by decide) 55 rfl)
    obtain ⟨X, hX⟩ : ∃ X, X = fpl [eO 82 tyProp ([y126, y134, y139, (TProp.mk [111, 112, 97, 99, 105, 116, 121] false (TVal.mk 5 [] 1000 (TColor.mk 0 0 0 0)) [] ([5] : List Int) false), (TProp.mk [122, 45, 105, 110, 100, 101, 120] false y3 ([[97, 117, 116, 111]] : List Str) ([6] : List Int) false), (TProp.mk [111, 114, 100, 101, 114] false (TVal.mk 6 [] 0 (TColor.mk 0 0 0 0)) [] ([6] : List Int) false)] : List TProp) (yg124 17 0), eI (tI .u8) ([6] : List Int) (yg124 15 0), eI (tI .u8) ([6] : List Int) (yg124 12 0), eI tS ([[97, 117, 116, 111]] : List Str) (yg124 11 0), eI (tI .u8) ([5] : List Int) (yg124 8 0), eI (tI .u8) y139.Kinds (yg124 6 1), eI tS y139.Words (yg124 6 0), eI (tI .u8) y134.Kinds (yg124 5 1), eI tS y134.Words (yg124 5 0), eI (tI .u8) y126.Kinds (yg124 2 1), eI tS y126.Words (yg124 2 0), eI (tI .u8) ([] : List Int) (.nil), eI (tI .u8) ([5] : List Int) (yg124 4 0), eO 82 tyProp z81 g123] := ⟨_, rfl⟩
    have hS : SH M X w [eO 82 tyProp ([y126, y134, y139, (TProp.mk [111, 112, 97, 99, 105, 116, 121] false (TVal.mk 5 [] 1000 (TColor.mk 0 0 0 0)) [] ([5] : List Int) false), (TProp.mk [122, 45, 105, 110, 100, 101, 120] false y3 ([[97, 117, 116, 111]] : List Str) ([6] : List Int) false), (TProp.mk [111, 114, 100, 101, 114] false (TVal.mk 6 [] 0 (TColor.mk 0 0 0 0)) [] ([6] : List Int) false)] : List TProp) (yg124 17 0), eI (tI .u8) ([6] : List Int) (yg124 15 0), eI (tI .u8) ([6] : List Int) (yg124 12 0), eI tS ([[97, 117, 116, 111]] : List Str) (yg124 11 0), eI (tI .u8) ([5] : List Int) (yg124 8 0), eI (tI .u8) y139.Kinds (yg124 6 1), eI tS y139.Words (yg124 6 0), eI (tI .u8) y134.Kinds (yg124 5 1), eI tS y134.Words (yg124 5 0), eI (tI .u8) y126.Kinds (yg124 2 1), eI tS y126.Words (yg124 2 0), eI (tI .u8) ([] : List Int) (.nil), eI (tI .u8) ([5] : List Int) (yg124 4 0), eO 82 tyProp z81 g123] w := by rw [hX]; exact hS0
    have hd := hS.hand [13, 0] [1, 2, 3, 4, 5, 6, 7, 8, 9, 10, 11, 12] rfl rfl
    refine Stp.mono (o_app2 (T := tyProp) (zv := vG [vN, vF, vU 0, vN, vI 0, vU 0, vU 0, vU 0, vU 0, vO, vO, vF]) (g1 := g123) (g2 := (yg124 17 0)) (l1 := z81) (l2 := ([y126, y134, y139, (TProp.mk [111, 112, 97, 99, 105, 116, 121] false (TVal.mk 5 [] 1000 (TColor.mk 0 0 0 0)) [] ([5] : List Int) false), (TProp.mk [122, 45, 105, 110, 100, 101, 120] false y3 ([[97, 117, 116, 111]] : List Str) ([6] : List Int) false), (TProp.mk [111, 114, 100, 101, 114] false (TVal.mk 6 [] 0 (TColor.mk 0 0 0 0)) [] ([6] : List Int) false)] : List TProp)) q155 hq155.symm H hd rfl rfl rfl rfl rfl rfl rfl (by kernel_rfl) (by kernel_rfl) rfl rfl ho154) ?_
    rintro v w2 hq
    obtain ⟨g156, rfl, hq⟩ := hq
    replace hS : SH M X w [eO 82 tyProp q155 g156, eO 82 tyProp ([y126, y134, y139, (TProp.mk [111, 112, 97, 99, 105, 116, 121] false (TVal.mk 5 [] 1000 (TColor.mk 0 0 0 0)) [] ([5] : List Int) false), (TProp.mk [122, 45, 105, 110, 100, 101, 120] false y3 ([[97, 117, 116, 111]] : List Str) ([6] : List Int) false), (TProp.mk [111, 114, 100, 101, 114] false (TVal.mk 6 [] 0 (TColor.mk 0 0 0 0)) [] ([6] : List Int) false)] : List TProp) (yg124 17 0), eI (tI .u8) ([6] : List Int) (yg124 15 0), eI (tI .u8) ([6] : List Int) (yg124 12 0), eI tS ([[97, 117, 116, 111]] : List Str) (yg124 11 0), eI (tI .u8) ([5] : List Int) (yg124 8 0), eI (tI .u8) y139.Kinds (yg124 6 1), eI tS y139.Words (yg124 6 0), eI (tI .u8) y134.Kinds (yg124 5 1), eI tS y134.Words (yg124 5 0), eI (tI .u8) y126.Kinds (yg124 2 1), eI tS y126.Words (yg124 2 0), eI (tI .u8) ([] : List Int) (.nil), eI (tI .u8) ([5] : List Int) (yg124 4 0)] _ := hS.join [13, 0] [1, 2, 3, 4, 5, 6, 7, 8, 9, 10, 11, 12] rfl rfl hq
    clear hq
    rw [hX] at hS
    exact ⟨gL [g156], fun _ _ => rfl, hS.sel [0, 1, 2, 3, 4, 5, 6, 7, 8, 9, 10, 11, 12, 13] rfl⟩
   ·intro o ho a w yg124 M Hb hv hO hS
    obtain rfl := Option.some.inj ho
    exact Stp.mono (o_evs [] (.slice (yg124 18 0).a q155.length (yg124 18 0).c) none [] ((Hb).add (hv 18 (by decide) (by decide) 56 rfl)) rfl (by kernel_rfl) (fun q e => by cases e)) fun _ _ hq => ⟨gL [], fun _ _ => hq.1, (hS.below hq.2.below).sel [0] rfl⟩
  have H159 : Fr 57 [(0, [], .slice (yg124 18 0).a q155.length (yg124 18 0).c)] _ := (FrG.add (FrG.keep (ks := []) H158 (by kernel_rfl)) (hv 19 0 rfl))
  replace hS : SH M X w [eO 82 tyProp ([y126, y134, y139, (TProp.mk [111, 112, 97, 99, 105, 116, 121] false (TVal.mk 5 [] 1000 (TColor.mk 0 0 0 0)) [] ([5] : List Int) false), (TProp.mk [122, 45, 105, 110, 100, 101, 120] false y3 ([[97, 117, 116, 111]] : List Str) ([6] : List Int) false), (TProp.mk [111, 114, 100, 101, 114] false (TVal.mk 6 [] 0 (TColor.mk 0 0 0 0)) [] ([6] : List Int) false)] : List TProp) (yg124 17 0), eI (tI .u8) ([6] : List Int) (yg124 15 0), eI (tI .u8) ([6] : List Int) (yg124 12 0), eI tS ([[97, 117, 116, 111]] : List Str) (yg124 11 0), eI (tI .u8) ([5] : List Int) (yg124 8 0), eI (tI .u8) y139.Kinds (yg124 6 1), eI tS y139.Words (yg124 6 0), eI (tI .u8) y134.Kinds (yg124 5 1), eI tS y134.Words (yg124 5 0), eI (tI .u8) y126.Kinds (yg124 2 1), eI tS y126.Words (yg124 2 0), eI (tI .u8) ([] : List Int) (.nil), eI (tI .u8) ([5] : List Int) (yg124 4 0), eO 82 tyProp q155 (yg124 18 0), eB b6 [vU y3.Kind, vS y3.Word, vI y3.Num, vU y3.Color.Red, vU y3.Color.Green, vU y3.Color.Blue, vU y3.Color.Alpha], gE1] _ := hS
  clear hv H158
  generalize yg124 18 0 = g160 at H159 hS
  generalize yg124 17 0 = g161 at H159 hS
  generalize yg124 15 0 = g162 at H159 hS
  generalize yg124 12 0 = g163 at H159 hS
  generalize yg124 11 0 = g164 at H159 hS
  generalize yg124 8 0 = g165 at H159 hS
  generalize yg124 6 1 = g166 at H159 hS
  generalize yg124 6 0 = g167 at H159 hS
  generalize yg124 5 1 = g168 at H159 hS
  generalize yg124 5 0 = g169 at H159 hS
  generalize yg124 2 1 = g170 at H159 hS
  generalize yg124 2 0 = g171 at H159 hS
  generalize yg124 4 0 = g172 at H159 hS
  replace hS : SH M X w [eO 82 tyProp q155 g160, gE1] _ := hS.sel [13, 15] rfl
  refine w_ret ?_
  obtain rfl := someE hm
  exact retR1 H159 rfl rfl ⟨_, rfl, g160, rfl, (hS.sel [0] rfl)⟩
theorem props_Table_ok  (m : Nat)  (r : List TProp) (hm : props_Table m = some r) (M : Av) (w : World) (hS : S0 M [gE1] w) : DoesX Tryz.prog 40 ⟨[]⟩ w (fun v w' => ∃ (g901 : Gh), v = vL g901 r ∧ SH M (fpl [gE1]) w [eO 82 tyProp r g901] w') := ⟨Tryz.call40 _, props_Table_w M m    r hm w hS⟩

theorem props_Check_w  (M : Av) (v_ : TVal) (r : Int) (hm : props_Check v_ = some r) (w : World) (hS : S0 M [] w) : Calls Tryz.prog 34 ⟨[vG [vU v_.Kind, vS v_.Word, vI v_.Num, vU v_.Color.Red, vU v_.Color.Green, vU v_.Color.Blue, vU v_.Color.Alpha]]⟩ w (fun e w' => ∃ v, e = .returned v ∧ v = vI r ∧ SH M (fpl []) w [] w') := by
 rw [props_Check] at hm
 have hS0 : SH M (fpl []) w [] w := hS
 generalize hX : fpl [] = X at hS0 ⊢
 clear hS hX
 have hS := hS0
 clear hS0
 refine calls_entryP Tryz.func34 rfl Tryz.ntmps34 rfl fun _ H => ?_
 refine w_seq ?_
 refine wl_start ?_
 have hd := hS.hand [] [] rfl rfl
 refine m_stp [1] [] H rfl rfl rfl rfl (o_box [vU v_.Kind, vS v_.Word, vI v_.Num, vU v_.Color.Red, vU v_.Color.Green, vU v_.Color.Blue, vU v_.Color.Alpha] H hd rfl rfl) (fun _ => rfl) fun _ _ v H3 hq => ?_
 clear H hd
 obtain ⟨b1, rfl, hq⟩ := hq
 replace hS : SH M X w [eB b1 [vU v_.Kind, vS v_.Word, vI v_.Num, vU v_.Color.Red, vU v_.Color.Green, vU v_.Color.Blue, vU v_.Color.Alpha]] _ := hS.join [] [] rfl rfl hq
 clear hq
 refine wl_batch 1 2 [] [1] [(1, [], vP b1)] [] H3 (by decide) (by kernel_rfl) trivial fun _ _ H5 hb => ?_
 replace hS := hS.below hb
 clear H3 hb
 refine wl_end rfl ?_
 refine w_seq ?_
 refine wl_start ?_
 refine wl_batch 0 3 [(vU v_.Kind)] [1, 7] [(1, [], vP b1), (7, [], vG [vU v_.Kind, vN, vI 0, vU 0, vU 0, vU 0, vU 0])] [rA b1 0 (vU v_.Kind)] H5 (by decide) (by kernel_rfl) ⟨((hS.bk 0 rfl).at1 rfl), trivial⟩ fun _ _ H7 hb => ?_
 replace hS := hS.below hb
 clear H5 hb
 have hd := hS.hand [] [0] rfl rfl
 refine m_stp [3, 1, 7] [(1, [], vP b1), (7, [], vG [vU v_.Kind, vN, vI 0, vU 0, vU 0, vU 0, vU 0])] H7 rfl rfl rfl rfl (o_alloc [vU 0, vN, vI 0, vU 0, vU 0, vU 0, vU 0] (z := vG [vU 0, vN, vI 0, vU 0, vU 0, vU 0, vU 0]) hd (by kernel_rfl) rfl) (fun _ => rfl) fun _ _ v H10 hq => ?_
 clear H7 hd
 obtain ⟨b8, rfl, hq⟩ := hq
 replace hS : SH M X w [eB b8 [vU 0, vN, vI 0, vU 0, vU 0, vU 0, vU 0], eB b1 [vU v_.Kind, vS v_.Word, vI v_.Num, vU v_.Color.Red, vU v_.Color.Green, vU v_.Color.Blue, vU v_.Color.Alpha]] _ := hS.join [] [0] rfl rfl hq
 clear hq
 have hd := hS.hand [0] [1] rfl rfl
 refine m_stp0 [1, 3] [(1, [], vP b1), (3, [], vP b8)] H10 rfl rfl rfl (o_store [vU v_.Kind, vN, vI 0, vU 0, vU 0, vU 0, vU 0] H10 hd rfl rfl (by kernel_rfl) rfl rfl rfl) rfl fun _ _ H12 hq => ?_
 clear H10 hd
 obtain ⟨_, hq⟩ := hq
 replace hS : SH M X w [eB b8 [vU v_.Kind, vN, vI 0, vU 0, vU 0, vU 0, vU 0], eB b1 [vU v_.Kind, vS v_.Word, vI v_.Num, vU v_.Color.Red, vU v_.Color.Green, vU v_.Color.Blue, vU v_.Color.Alpha]] _ := hS.join [0] [1] rfl rfl hq
 clear hq
 refine wl_end rfl ?_
 refine s_reg [] [1, 3, 4] [(1, [], vP b1), (3, [], vP b8), (4, [], vI 1000000000000)] [] H12 (by kernel_rfl) trivial fun _ _ H14 hb => ?_
 replace hS := hS.below hb
 clear H12 hb
 obtain ⟨z15, hz, hm_z15⟩ := bindE hm
 refine w_cut (fun a' w' => ∃ s_z15 : Str × Int × Int × Int × Int × Int, z15 = Sum.inr s_z15 ∧ Fr 52 [(1, [], vP b1), (3, [], vP b8)] a' ∧ SH M X w [eB b8 [vU v_.Kind, vS s_z15.1, vI s_z15.2.2.2.2.2, vU s_z15.2.1, vU s_z15.2.2.1, vU s_z15.2.2.2.1, vU s_z15.2.2.2.2.1], eB b1 [vU v_.Kind, vS v_.Word, vI v_.Num, vU v_.Color.Red, vU v_.Color.Green, vU v_.Color.Blue, vU v_.Color.Alpha]] w') ?_ ?_
 ·replace hm := hz
  refine s_reg [(vU v_.Kind)] [1, 3, 4, 9] [(1, [], vP b1), (3, [], vP b8), (4, [], vI 1000000000000), (9, [], vU v_.Kind)] [rA b1 0 (vU v_.Kind)] H14 (by kernel_rfl) ⟨((hS.bk 1 rfl).at1 rfl), trivial⟩ fun _ _ H17 hb => ?_
  replace hS := hS.below hb
  clear H14 hb
  refine w_block ?_
  refine w_seq ?_
  refine w_block ?_
  refine w_seq ?_
  refine w_block ?_
  refine w_seq ?_
  refine w_block ?_
  obtain ⟨z18, hz, hm_z18⟩ := bindE hm
  refine w_cut (fun a' w' => ∃ s_z18 : Int, z18 = Sum.inr s_z18 ∧ Fr 52 [(1, [], vP b1), (3, [], vP b8), (4, [], vI s_z18)] a' ∧ SH M X w [eB b8 [vU v_.Kind, vN, vI 0, vU 0, vU 0, vU 0, vU 0], eB b1 [vU v_.Kind, vS v_.Word, vI v_.Num, vU v_.Color.Red, vU v_.Color.Green, vU v_.Color.Blue, vU v_.Color.Alpha]] w') ?_ ?_
  ·replace hm := hz
   refine w_block ?_
   refine w_seq ?_
   refine w_block ?_
   refine w_seq ?_
   refine w_block ?_
   refine w_seq ?_
   refine w_seq ?_
   refine s_reg [] [1, 3, 4, 9, 10] [(1, [], vP b1), (3, [], vP b8), (4, [], vI 1000000000000), (9, [], vU v_.Kind), (10, [], vB (v_.Kind == 1))] [] H17 (by kernel_rfl) trivial fun _ _ H20 hb => ?_
   replace hS := hS.below hb
   clear H17 hb
   refine w_if H20 rfl (fun hc => ?c60) (fun hc => ?_)
   case c60 =>
    replace hm := bT hc hm
    refine w_exit rfl ?_
    refine w_seq ?_
    refine wl_start ?_
    refine wl_batch 0 3 [(vS v_.Word)] [1, 3, 24, 25] [(1, [], vP b1), (3, [], vP b8), (24, [], vS v_.Word), (25, [], vA b8 1)] [rA b1 1 (vS v_.Word)] H20 (by decide) (by kernel_rfl) ⟨((hS.bk 1 rfl).at1 rfl), trivial⟩ fun _ _ H22 hb => ?_
    replace hS := hS.below hb
    clear H20 hb
    have hd := hS.hand [0] [1] rfl rfl
    refine m_stp0 [1, 3] [(1, [], vP b1), (3, [], vP b8)] H22 rfl rfl rfl (o_store [vU v_.Kind, vS v_.Word, vI 0, vU 0, vU 0, vU 0, vU 0] H22 hd rfl rfl (by kernel_rfl) rfl rfl rfl) rfl fun _ _ H24 hq => ?_
    clear H22 hd
    obtain ⟨_, hq⟩ := hq
    replace hS : SH M X w [eB b8 [vU v_.Kind, vS v_.Word, vI 0, vU 0, vU 0, vU 0, vU 0], eB b1 [vU v_.Kind, vS v_.Word, vI v_.Num, vU v_.Color.Red, vU v_.Color.Green, vU v_.Color.Blue, vU v_.Color.Alpha]] _ := hS.join [0] [1] rfl rfl hq
    clear hq
    refine wl_end rfl ?_
    refine w_exit rfl ?_
    obtain ⟨r25, hr_r25, hm⟩ := bindE hm
    obtain rfl := someE hm
    have hm := hm_z18
    obtain rfl := someE hm
    have hm := hr_r25
    clear hr_r25
    obtain rfl := someE hm
    exact ⟨_, rfl, FrG.keep (ks := [1, 3]) H24 (by kernel_rfl), hS⟩
   replace hm := bF hc hm
   refine w_skip ?_
   refine w_seq ?_
   refine s_reg [] [1, 3, 4, 9, 12] [(1, [], vP b1), (3, [], vP b8), (4, [], vI 1000000000000), (9, [], vU v_.Kind), (12, [], vB (v_.Kind == 6))] [] H20 (by kernel_rfl) trivial fun _ _ H27 hb => ?_
   replace hS := hS.below hb
   clear H20 hb
   refine w_if H27 rfl (fun hc => ?c59) (fun hc => ?_)
   case c59 =>
    replace hm := bT hc hm
    refine w_exit rfl ?_
    refine w_reg [] [1, 3, 4] [(1, [], vP b1), (3, [], vP b8), (4, [], vI (w64 (Int.tdiv 1000000000000 1000)))] [fun _ => (1000 : Int) ≠ 0] H27 (by kernel_rfl) ⟨(by show (1000 : Int) ≠ 0; decide), trivial⟩ fun _ _ H29 hb => ?_
    replace hS := hS.below hb
    clear H27 hb
    obtain rfl := someE hm
    exact ⟨_, rfl, FrG.keep (ks := [1, 3, 4]) H29 (by kernel_rfl), hS⟩
   replace hm := bF hc hm
   refine w_skip ?_
   refine w_seq ?_
   obtain ⟨z30, hz, hm⟩ := bindE hm
   refine w_cut (fun a' w' => Fr 52 [(1, [], vP b1), (3, [], vP b8), (4, [], vI 1000000000000), (9, [], vU v_.Kind), (14, [], vB z30)] a' ∧ SH M X w [eB b8 [vU v_.Kind, vN, vI 0, vU 0, vU 0, vU 0, vU 0], eB b1 [vU v_.Kind, vS v_.Word, vI v_.Num, vU v_.Color.Red, vU v_.Color.Green, vU v_.Color.Blue, vU v_.Color.Alpha]] w') ?_ ?_
   ·replace hm := hz
    refine s_reg [] [1, 3, 4, 9, 14] [(1, [], vP b1), (3, [], vP b8), (4, [], vI 1000000000000), (9, [], vU v_.Kind), (14, [], vB (v_.Kind == 2))] [] H27 (by kernel_rfl) trivial fun _ _ H32 hb => ?_
    replace hS := hS.below hb
    clear H27 hb
    refine w_if H32 rfl (fun hc => ?c41) (fun hc => ?_)
    case c41 =>
     replace hm := bT hc hm
     refine w_skip ?_
     obtain rfl := someE hm
     exact ⟨FrG.keep (ks := [1, 3, 4, 9, 14]) H32 (by kernel_rfl), hS⟩
    replace hm := bF hc hm
    refine s_reg [] [1, 3, 4, 9, 14] [(1, [], vP b1), (3, [], vP b8), (4, [], vI 1000000000000), (9, [], vU v_.Kind), (14, [], vB (v_.Kind == 3))] [] H32 (by kernel_rfl) trivial fun _ _ H34 hb => ?_
    replace hS := hS.below hb
    clear H32 hb
    refine w_if H34 rfl (fun hc => ?c40) (fun hc => ?_)
    case c40 =>
     replace hm := bT hc hm
     refine w_skip ?_
     obtain rfl := someE hm
     exact ⟨FrG.keep (ks := [1, 3, 4, 9, 14]) H34 (by kernel_rfl), hS⟩
    replace hm := bF hc hm
    refine s_reg [] [1, 3, 4, 9, 14] [(1, [], vP b1), (3, [], vP b8), (4, [], vI 1000000000000), (9, [], vU v_.Kind), (14, [], vB (v_.Kind == 4))] [] H34 (by kernel_rfl) trivial fun _ _ H36 hb => ?_
    replace hS := hS.below hb
    clear H34 hb
    refine w_if H36 rfl (fun hc => ?c39) (fun hc => ?_)
    case c39 =>
     replace hm := bT hc hm
     refine w_skip ?_
     obtain rfl := someE hm
     exact ⟨FrG.keep (ks := [1, 3, 4, 9, 14]) H36 (by kernel_rfl), hS⟩
    replace hm := bF hc hm
    refine w_reg [] [1, 3, 4, 9, 14] [(1, [], vP b1), (3, [], vP b8), (4, [], vI 1000000000000), (9, [], vU v_.Kind), (14, [], vB (v_.Kind == 5))] [] H36 (by kernel_rfl) trivial fun _ _ H38 hb => ?_
    replace hS := hS.below hb
    clear H36 hb
    obtain rfl := someE hm
    exact ⟨FrG.keep (ks := [1, 3, 4, 9, 14]) H38 (by kernel_rfl), hS⟩
   ·rintro _ _ ⟨H, hS⟩
    refine w_if H rfl (fun hc => ?c57) (fun hc => ?_)
    case c57 =>
     replace hm := bT hc hm
     refine w_exit rfl ?_
     obtain rfl := someE hm
     exact ⟨_, rfl, FrG.keep (ks := [1, 3, 4]) H (by kernel_rfl), hS⟩
    replace hm := bF hc hm
    refine w_skip ?_
    refine w_seq ?_
    refine s_reg [] [1, 3, 9, 19] [(1, [], vP b1), (3, [], vP b8), (9, [], vU v_.Kind), (19, [], vB (v_.Kind == 7))] [] H (by kernel_rfl) trivial fun _ _ H43 hb => ?_
    replace hS := hS.below hb
    clear H hb
    refine w_if H43 rfl (fun hc => ?c56) (fun hc => ?_)
    case c56 =>
     replace hm := bT hc hm
     refine w_exit rfl ?_
     obtain ⟨r48, hr_r48, hm⟩ := bindE hm
     obtain rfl := someE hm
     have hm := hm_z18
     obtain rfl := someE hm
     have hm := hr_r48
     clear hr_r48
     refine w_seq ?_
     refine wl_start ?_
     refine wl_batch 0 3 [(vG [vU v_.Color.Red, vU v_.Color.Green, vU v_.Color.Blue, vU v_.Color.Alpha])] [1, 3, 37, 38] [(1, [], vP b1), (3, [], vP b8), (37, [], vG [vU v_.Color.Red, vU v_.Color.Green, vU v_.Color.Blue, vU v_.Color.Alpha]), (38, [], vA b8 3)] [rN b1 3 [vU v_.Color.Red, vU v_.Color.Green, vU v_.Color.Blue, vU v_.Color.Alpha]] H43 (by decide) (by kernel_rfl) ⟨((hS.bk 1 rfl).atD rfl), trivial⟩ fun _ _ H45 hb => ?_
     replace hS := hS.below hb
     clear H43 hb
     have hd := hS.hand [0] [1] rfl rfl
     refine m_stp0 [1, 3] [(1, [], vP b1), (3, [], vP b8)] H45 rfl rfl rfl (o_store [vU v_.Kind, vN, vI 0, vU v_.Color.Red, vU v_.Color.Green, vU v_.Color.Blue, vU v_.Color.Alpha] H45 hd rfl rfl (by kernel_rfl) rfl rfl rfl) rfl fun _ _ H47 hq => ?_
     clear H45 hd
     obtain ⟨_, hq⟩ := hq
     replace hS : SH M X w [eB b8 [vU v_.Kind, vN, vI 0, vU v_.Color.Red, vU v_.Color.Green, vU v_.Color.Blue, vU v_.Color.Alpha], eB b1 [vU v_.Kind, vS v_.Word, vI v_.Num, vU v_.Color.Red, vU v_.Color.Green, vU v_.Color.Blue, vU v_.Color.Alpha]] _ := hS.join [0] [1] rfl rfl hq
     clear hq
     refine wl_end rfl ?_
     refine w_exit rfl ?_
     obtain rfl := someE hm
     exact ⟨_, rfl, FrG.keep (ks := [1, 3]) H47 (by kernel_rfl), hS⟩
    replace hm := bF hc hm
    refine w_skip ?_
    refine s_reg [] [1, 3, 21] [(1, [], vP b1), (3, [], vP b8), (21, [], vB (v_.Kind == 8))] [] H43 (by kernel_rfl) trivial fun _ _ H50 hb => ?_
    replace hS := hS.below hb
    clear H43 hb
    refine w_if H50 rfl (fun hc => ?c55) (fun hc => ?_)
    case c55 =>
     replace hm := bT hc hm
     refine w_exit rfl ?_
     obtain ⟨r51, hr_r51, hm⟩ := bindE hm
     obtain rfl := someE hm
     have hm := hm_z18
     obtain rfl := someE hm
     have hm := hr_r51
     clear hr_r51
     refine w_exit rfl ?_
     obtain rfl := someE hm
     exact ⟨_, rfl, FrG.keep (ks := [1, 3]) H50 (by kernel_rfl), hS⟩
    replace hm := bF hc hm
    refine w_skip ?_
    refine w_exit rfl ?_
    obtain ⟨r54, hr_r54, hm⟩ := bindE hm
    obtain rfl := someE hm
    have hm := hm_z18
    obtain rfl := someE hm
    have hm := hr_r54
    clear hr_r54
    refine w_seq ?_
    refine s_reg [] [2] [(2, [], vI 8)] [] H50 (by kernel_rfl) trivial fun _ _ H53 hb => ?_
    replace hS := hS.below hb
    clear H50 hb
    refine w_ret ?_
    obtain rfl := someE hm
    have hm := hm_z15
    obtain rfl := someE hm
    exact retR1 H53 rfl rfl ⟨_, rfl, rfl, (hS.sel [] rfl)⟩
  ·rintro _ _ ⟨s_z18, hz, H, hS⟩
   subst hz
   replace hm := sumR hm_z18
   refine w_seq ?_
   refine wl_start ?_
   obtain ⟨x61, hx61, hm⟩ := letE hm
   refine wl_batch 0 8 [(vI v_.Num)] [1, 3, 34, 35] [(1, [], vP b1), (3, [], vP b8), (34, [], vI x61), (35, [], vA b8 2)] [rA b1 2 (vI v_.Num)] H (by decide) (by subst hx61; kernel_rfl) ⟨((hS.bk 1 rfl).at1 rfl), trivial⟩ fun _ _ H63 hb => ?_
   replace hS := hS.below hb
   clear H hb
   have hd := hS.hand [0] [1] rfl rfl
   refine m_stp0 [1, 3] [(1, [], vP b1), (3, [], vP b8)] H63 rfl rfl rfl (o_store [vU v_.Kind, vN, vI x61, vU 0, vU 0, vU 0, vU 0] H63 hd rfl rfl (by kernel_rfl) rfl rfl rfl) rfl fun _ _ H65 hq => ?_
   clear H63 hd
   obtain ⟨_, hq⟩ := hq
   replace hS : SH M X w [eB b8 [vU v_.Kind, vN, vI x61, vU 0, vU 0, vU 0, vU 0], eB b1 [vU v_.Kind, vS v_.Word, vI v_.Num, vU v_.Color.Red, vU v_.Color.Green, vU v_.Color.Blue, vU v_.Color.Alpha]] _ := hS.join [0] [1] rfl rfl hq
   clear hq
   refine wl_end rfl ?_
   refine w_exit rfl ?_
   obtain rfl := someE hm
   exact ⟨_, rfl, FrG.keep (ks := [1, 3]) H65 (by kernel_rfl), hS⟩
 ·rintro _ _ ⟨s_z15, hz, H, hS⟩
  subst hz
  replace hm := sumR hm_z15
  refine w_seq ?_
  obtain ⟨x67, hx67, hm⟩ := letE hm
  obtain ⟨x68, hx68, hm⟩ := letE hm
  refine s_reg [(vG [vU v_.Kind, vS v_.Word, vI v_.Num, vU v_.Color.Red, vU v_.Color.Green, vU v_.Color.Blue, vU v_.Color.Alpha]), (vG [vU v_.Kind, vS s_z15.1, vI s_z15.2.2.2.2.2, vU s_z15.2.1, vU s_z15.2.2.1, vU s_z15.2.2.2.1, vU s_z15.2.2.2.2.1]), (vU v_.Kind), (vS v_.Word)] [51] [(51, [], vB x68)] [rN b1 0 [vU v_.Kind, vS v_.Word, vI v_.Num, vU v_.Color.Red, vU v_.Color.Green, vU v_.Color.Blue, vU v_.Color.Alpha], rN b8 0 [vU v_.Kind, vS s_z15.1, vI s_z15.2.2.2.2.2, vU s_z15.2.1, vU s_z15.2.2.1, vU s_z15.2.2.2.1, vU s_z15.2.2.2.2.1], fun wz => (x67 = false ∧ True → V.at1 ⟨b1, 0, none⟩ (vU v_.Kind) wz), fun wz => ((v_.Kind == 1) = true ∧ x67 = false ∧ True → V.at1 ⟨b1, 1, none⟩ (vS v_.Word) wz)] H (by subst hx67 hx68; kernel_rfl) ⟨((hS.bk 1 rfl).atD rfl), ((hS.bk 0 rfl).atD rfl), fun hg => (hS.bk 1 rfl).at1 rfl, fun hg => (hS.bk 1 rfl).at1 rfl, trivial⟩ fun _ _ H70 hb => ?_
  replace hS := hS.below hb
  clear H hb
  replace hS : SH M X w [] _ := hS.sel [] rfl
  refine w_if H70 rfl (fun hc => ?c75) (fun hc => ?_)
  case c75 =>
   replace hm := bT hc hm
   refine s_reg [] [2] [(2, [], vI 8)] [] H70 (by kernel_rfl) trivial fun _ _ H72 hb => ?_
   replace hS := hS.below hb
   clear H70 hb
   refine w_ret ?_
   obtain rfl := someE hm
   exact retR1 H72 rfl rfl ⟨_, rfl, rfl, (hS.sel [] rfl)⟩
  replace hm := bF hc hm
  refine w_skip ?_
  refine s_reg [] [2] [(2, [], vI 0)] [] H70 (by kernel_rfl) trivial fun _ _ H74 hb => ?_
  replace hS := hS.below hb
  clear H70 hb
  refine w_ret ?_
  obtain rfl := someE hm
  exact retR1 H74 rfl rfl ⟨_, rfl, rfl, (hS.sel [] rfl)⟩
theorem props_Check_ok  (v_ : TVal) (r : Int) (hm : props_Check v_ = some r) : Ret Tryz.prog 34 ⟨[vG [vU v_.Kind, vS v_.Word, vI v_.Num, vU v_.Color.Red, vU v_.Color.Green, vU v_.Color.Blue, vU v_.Color.Alpha]]⟩ (vI r) := retP_of (Tryz.call34 _) (fun w h => props_Check_w F0   v_ r hm w h)

theorem slices_Index_string_string_w {g_s : Gh} (M : Av) (m : Nat) (s : List Str) (v_ : Str) (r : Int) (hm : slices_Index_string_string m s v_ = some r) (w : World) (hS : S0 M [eI tS s g_s] w) : Calls Tryz.prog 62 ⟨[vL g_s s, vS v_]⟩ w (fun e w' => ∃ v, e = .returned v ∧ v = vI r ∧ SH M (fpl [eI tS s g_s]) w [] w') := by
 rw [slices_Index_string_string] at hm
 have hS0 : SH M (fpl [eI tS s g_s]) w [eI tS s g_s] w := hS
 generalize hX : fpl [eI tS s g_s] = X at hS0 ⊢
 clear hS hX
 have hS := hS0
 clear hS0
 refine calls_entryP Tryz.func62 rfl Tryz.ntmps62 rfl fun _ H => ?_
 refine s_reg [] [0, 1] [(0, [], vL g_s s), (1, [], vS v_)] [] H (by kernel_rfl) trivial fun _ _ H2 hb => ?_
 replace hS := hS.below hb
 clear H hb
 obtain ⟨z3, hz, hm_z3⟩ := bindE hm
 refine w_cut (fun a' w' => ∃ s_z3 : Unit, z3 = Sum.inr s_z3 ∧ Fr 19 [] a' ∧ SH M X w [eI tS s g_s] w') ?_ ?_
 ·replace hm := hz
  refine s_reg [] [0, 1, 7, 8] [(0, [], vL g_s s), (1, [], vS v_), (7, [], vI (ln s)), (8, [], vI 0)] [] H2 (by kernel_rfl) trivial fun _ _ H5 hb => ?_
  replace hS := hS.below hb
  clear H2 hb
  refine w_block ?_
  refine w_loop (fun kk a' w' => ∃ (v6 : Int), slices_Index_string_string_L1 m s v_ kk v6 = some _ ∧ Fr 19 [(0, [], vL g_s s), (1, [], vS v_), (7, [], vI (ln s)), (8, [], vI v6)] a' ∧ SH M X w [eI tS s g_s] w') ⟨_, 0, hm, FrG.keep (ks := [0, 1, 7, 8]) H5 (by kernel_rfl), hS⟩ ?_
  clear hm H5 hS
  rintro kk _ _ ⟨v6, hm, H, hS⟩
  cases kk with
  | zero => exact noneE hm
  | succ kk =>
   rw [slices_Index_string_string_L1] at hm
   refine s_reg [] [0, 1, 7, 8, 9] [(0, [], vL g_s s), (1, [], vS v_), (7, [], vI (ln s)), (8, [], vI v6), (9, [], vB (decide (v6 < (ln s))))] [] H (by kernel_rfl) trivial fun _ _ H8 hb => ?_
   replace hS := hS.below hb
   clear H hb
   refine w_seq ?_
   refine w_if H8 rfl (fun hc => ?_) (fun hc => ?c19)
   case c19 =>
    replace hm := bF hc hm
    refine w_exit rfl ?_
    obtain rfl := someE hm
    exact ⟨_, rfl, FrG.keep (ks := []) H8 (by kernel_rfl), hS⟩
   replace hm := bT hc hm
   refine w_skip ?_
   refine w_seq ?_
   refine w_block ?_
   refine s_reg [] [0, 1, 5, 7, 8] [(0, [], vL g_s s), (1, [], vS v_), (5, [], vI v6), (7, [], vI (ln s)), (8, [], vI v6)] [] H8 (by kernel_rfl) trivial fun _ _ H10 hb => ?_
   replace hS := hS.below hb
   clear H8 hb
   obtain ⟨ho11, hm⟩ := chkE hm
   refine s_reg [(vS (gi s v6))] [0, 1, 5, 7, 8, 16] [(0, [], vL g_s s), (1, [], vS v_), (5, [], vI v6), (7, [], vI (ln s)), (8, [], vI v6), (16, [], vB (v_ == (gi s v6)))] [fun _ => oka g_s.a ∧ 0 ≤ v6 ∧ v6 < ln s, fun wz => V.at1 ⟨ab g_s.a, ao g_s.a + (v6).toNat * 1, none⟩ (vS (gi s v6)) wz] H10 (by kernel_rfl) ⟨((hS.im 0 rfl).oki ho11), ((hS.im 0 rfl).at1 ho11 0 rfl), trivial⟩ fun _ _ H13 hb => ?_
   replace hS := hS.below hb
   clear H10 hb
   refine w_if H13 rfl (fun hc => ?_) (fun hc => ?c18)
   case c18 =>
    replace hm := bF hc hm
    refine w_skip ?_
    refine w_reg [] [0, 1, 7, 8] [(0, [], vL g_s s), (1, [], vS v_), (7, [], vI (ln s)), (8, [], vI (w64 (v6 + 1)))] [] H13 (by kernel_rfl) trivial fun _ _ H17 hb => ?_
    replace hS := hS.below hb
    clear H13 hb
    exact ⟨_, Nat.lt_succ_self _, w64 (v6 + 1), hm, FrG.keep (ks := [0, 1, 7, 8]) H17 (by kernel_rfl), hS⟩
   replace hm := bT hc hm
   refine s_reg [] [4] [(4, [], vI v6)] [] H13 (by kernel_rfl) trivial fun _ _ H15 hb => ?_
   replace hS := hS.below hb
   clear H13 hb
   refine w_ret ?_
   obtain rfl := someE hm
   have hm := hm_z3
   obtain rfl := someE hm
   exact retR1 H15 rfl rfl ⟨_, rfl, rfl, (hS.sel [] rfl)⟩
 ·rintro _ _ ⟨s_z3, hz, H, hS⟩
  subst hz
  replace hm := sumR hm_z3
  replace hS : SH M X w [] _ := hS.sel [] rfl
  refine s_reg [] [4] [(4, [], vI (-1))] [] H (by kernel_rfl) trivial fun _ _ H22 hb => ?_
  replace hS := hS.below hb
  clear H hb
  refine w_ret ?_
  obtain rfl := someE hm
  exact retR1 H22 rfl rfl ⟨_, rfl, rfl, (hS.sel [] rfl)⟩
theorem slices_Index_string_string_ok {g_s : Gh} (m : Nat) (s : List Str) (v_ : Str) (r : Int) (hm : slices_Index_string_string m s v_ = some r) (w : World) (hL : S0 F0 [eI tS s g_s] w ∧ fpl [eI tS s g_s] = []) : RetB Tryz.prog 62 ⟨[vL g_s s, vS v_]⟩ (vI r) w := retB_of hL (Tryz.call62 _) (fun w' h => slices_Index_string_string_w F0 m   s v_ r hm w' h)

theorem slices_Contains_string_string_w {g_s : Gh} (M : Av) (m : Nat) (s : List Str) (v_ : Str) (r : Bool) (hm : slices_Contains_string_string m s v_ = some r) (w : World) (hS : S0 M [eI tS s g_s] w) : Calls Tryz.prog 41 ⟨[vL g_s s, vS v_]⟩ w (fun e w' => ∃ v, e = .returned v ∧ v = vB r ∧ SH M (fpl [eI tS s g_s]) w [] w') := by
 rw [slices_Contains_string_string] at hm
 have hS0 : SH M (fpl [eI tS s g_s]) w [eI tS s g_s] w := hS
 generalize hX : fpl [eI tS s g_s] = X at hS0 ⊢
 clear hS hX
 have hS := hS0
 clear hS0
 refine calls_entryP Tryz.func41 rfl Tryz.ntmps41 rfl fun _ H => ?_
 refine s_reg [] [0, 1] [(0, [], vL g_s s), (1, [], vS v_)] [] H (by kernel_rfl) trivial fun _ _ H2 hb => ?_
 replace hS := hS.below hb
 clear H hb
 obtain ⟨y3, hy3, hm⟩ := bindE hm
 refine s_reg [(vI y3)] [4] [(4, [], vB (decide (0 ≤ y3)))] [rB 62 [vL g_s s, vS v_] (vI y3)] H2 (by kernel_rfl) ⟨(slices_Index_string_string_ok (g_s := g_s) m _ _ _ hy3 _ (s0im s0nil (hS.im 0 rfl))), trivial⟩ fun _ _ H5 hb => ?_
 replace hS := hS.below hb
 clear H2 hb
 replace hS : SH M X w [] _ := hS.sel [] rfl
 refine w_ret ?_
 obtain rfl := someE hm
 exact retR1 H5 rfl rfl ⟨_, rfl, rfl, (hS.sel [] rfl)⟩
theorem slices_Contains_string_string_ok {g_s : Gh} (m : Nat) (s : List Str) (v_ : Str) (r : Bool) (hm : slices_Contains_string_string m s v_ = some r) (w : World) (hL : S0 F0 [eI tS s g_s] w ∧ fpl [eI tS s g_s] = []) : RetB Tryz.prog 41 ⟨[vL g_s s, vS v_]⟩ (vB r) w := retB_of hL (Tryz.call41 _) (fun w' h => slices_Contains_string_string_w F0 m   s v_ r hm w' h)

theorem slices_Index_uint8_uint8_w {g_s : Gh} (M : Av) (m : Nat) (s : List Int) (v_ : Int) (r : Int) (hm : slices_Index_uint8_uint8 m s v_ = some r) (w : World) (hS : S0 M [eI (tI .u8) s g_s] w) : Calls Tryz.prog 63 ⟨[vL g_s s, vU v_]⟩ w (fun e w' => ∃ v, e = .returned v ∧ v = vI r ∧ SH M (fpl [eI (tI .u8) s g_s]) w [] w') := by
 rw [slices_Index_uint8_uint8] at hm
 have hS0 : SH M (fpl [eI (tI .u8) s g_s]) w [eI (tI .u8) s g_s] w := hS
 generalize hX : fpl [eI (tI .u8) s g_s] = X at hS0 ⊢
 clear hS hX
 have hS := hS0
 clear hS0
 refine calls_entryP Tryz.func63 rfl Tryz.ntmps63 rfl fun _ H => ?_
 refine s_reg [] [0, 1] [(0, [], vL g_s s), (1, [], vU v_)] [] H (by kernel_rfl) trivial fun _ _ H2 hb => ?_
 replace hS := hS.below hb
 clear H hb
 obtain ⟨z3, hz, hm_z3⟩ := bindE hm
 refine w_cut (fun a' w' => ∃ s_z3 : Unit, z3 = Sum.inr s_z3 ∧ Fr 19 [] a' ∧ SH M X w [eI (tI .u8) s g_s] w') ?_ ?_
 ·replace hm := hz
  refine s_reg [] [0, 1, 7, 8] [(0, [], vL g_s s), (1, [], vU v_), (7, [], vI (ln s)), (8, [], vI 0)] [] H2 (by kernel_rfl) trivial fun _ _ H5 hb => ?_
  replace hS := hS.below hb
  clear H2 hb
  refine w_block ?_
  refine w_loop (fun kk a' w' => ∃ (v6 : Int), slices_Index_uint8_uint8_L1 m s v_ kk v6 = some _ ∧ Fr 19 [(0, [], vL g_s s), (1, [], vU v_), (7, [], vI (ln s)), (8, [], vI v6)] a' ∧ SH M X w [eI (tI .u8) s g_s] w') ⟨_, 0, hm, FrG.keep (ks := [0, 1, 7, 8]) H5 (by kernel_rfl), hS⟩ ?_
  clear hm H5 hS
  rintro kk _ _ ⟨v6, hm, H, hS⟩
  cases kk with
  | zero => exact noneE hm
  | succ kk =>
   rw [slices_Index_uint8_uint8_L1] at hm
   refine s_reg [] [0, 1, 7, 8, 9] [(0, [], vL g_s s), (1, [], vU v_), (7, [], vI (ln s)), (8, [], vI v6), (9, [], vB (decide (v6 < (ln s))))] [] H (by kernel_rfl) trivial fun _ _ H8 hb => ?_
   replace hS := hS.below hb
   clear H hb
   refine w_seq ?_
   refine w_if H8 rfl (fun hc => ?_) (fun hc => ?c19)
   case c19 =>
    replace hm := bF hc hm
    refine w_exit rfl ?_
    obtain rfl := someE hm
    exact ⟨_, rfl, FrG.keep (ks := []) H8 (by kernel_rfl), hS⟩
   replace hm := bT hc hm
   refine w_skip ?_
   refine w_seq ?_
   refine w_block ?_
   refine s_reg [] [0, 1, 5, 7, 8] [(0, [], vL g_s s), (1, [], vU v_), (5, [], vI v6), (7, [], vI (ln s)), (8, [], vI v6)] [] H8 (by kernel_rfl) trivial fun _ _ H10 hb => ?_
   replace hS := hS.below hb
   clear H8 hb
   obtain ⟨ho11, hm⟩ := chkE hm
   refine s_reg [(vU (gi s v6))] [0, 1, 5, 7, 8, 16] [(0, [], vL g_s s), (1, [], vU v_), (5, [], vI v6), (7, [], vI (ln s)), (8, [], vI v6), (16, [], vB (v_ == (gi s v6)))] [fun _ => oka g_s.a ∧ 0 ≤ v6 ∧ v6 < ln s, fun wz => V.at1 ⟨ab g_s.a, ao g_s.a + (v6).toNat * 1, none⟩ (vU (gi s v6)) wz] H10 (by kernel_rfl) ⟨((hS.im 0 rfl).oki ho11), ((hS.im 0 rfl).at1 ho11 0 rfl), trivial⟩ fun _ _ H13 hb => ?_
   replace hS := hS.below hb
   clear H10 hb
   refine w_if H13 rfl (fun hc => ?_) (fun hc => ?c18)
   case c18 =>
    replace hm := bF hc hm
    refine w_skip ?_
    refine w_reg [] [0, 1, 7, 8] [(0, [], vL g_s s), (1, [], vU v_), (7, [], vI (ln s)), (8, [], vI (w64 (v6 + 1)))] [] H13 (by kernel_rfl) trivial fun _ _ H17 hb => ?_
    replace hS := hS.below hb
    clear H13 hb
    exact ⟨_, Nat.lt_succ_self _, w64 (v6 + 1), hm, FrG.keep (ks := [0, 1, 7, 8]) H17 (by kernel_rfl), hS⟩
   replace hm := bT hc hm
   refine s_reg [] [4] [(4, [], vI v6)] [] H13 (by kernel_rfl) trivial fun _ _ H15 hb => ?_
   replace hS := hS.below hb
   clear H13 hb
   refine w_ret ?_
   obtain rfl := someE hm
   have hm := hm_z3
   obtain rfl := someE hm
   exact retR1 H15 rfl rfl ⟨_, rfl, rfl, (hS.sel [] rfl)⟩
 ·rintro _ _ ⟨s_z3, hz, H, hS⟩
  subst hz
  replace hm := sumR hm_z3
  replace hS : SH M X w [] _ := hS.sel [] rfl
  refine s_reg [] [4] [(4, [], vI (-1))] [] H (by kernel_rfl) trivial fun _ _ H22 hb => ?_
  replace hS := hS.below hb
  clear H hb
  refine w_ret ?_
  obtain rfl := someE hm
  exact retR1 H22 rfl rfl ⟨_, rfl, rfl, (hS.sel [] rfl)⟩
theorem slices_Index_uint8_uint8_ok {g_s : Gh} (m : Nat) (s : List Int) (v_ : Int) (r : Int) (hm : slices_Index_uint8_uint8 m s v_ = some r) (w : World) (hL : S0 F0 [eI (tI .u8) s g_s] w ∧ fpl [eI (tI .u8) s g_s] = []) : RetB Tryz.prog 63 ⟨[vL g_s s, vU v_]⟩ (vI r) w := retB_of hL (Tryz.call63 _) (fun w' h => slices_Index_uint8_uint8_w F0 m   s v_ r hm w' h)

theorem slices_Contains_uint8_uint8_w {g_s : Gh} (M : Av) (m : Nat) (s : List Int) (v_ : Int) (r : Bool) (hm : slices_Contains_uint8_uint8 m s v_ = some r) (w : World) (hS : S0 M [eI (tI .u8) s g_s] w) : Calls Tryz.prog 42 ⟨[vL g_s s, vU v_]⟩ w (fun e w' => ∃ v, e = .returned v ∧ v = vB r ∧ SH M (fpl [eI (tI .u8) s g_s]) w [] w') := by
 rw [slices_Contains_uint8_uint8] at hm
 have hS0 : SH M (fpl [eI (tI .u8) s g_s]) w [eI (tI .u8) s g_s] w := hS
 generalize hX : fpl [eI (tI .u8) s g_s] = X at hS0 ⊢
 clear hS hX
 have hS := hS0
 clear hS0
 refine calls_entryP Tryz.func42 rfl Tryz.ntmps42 rfl fun _ H => ?_
 refine s_reg [] [0, 1] [(0, [], vL g_s s), (1, [], vU v_)] [] H (by kernel_rfl) trivial fun _ _ H2 hb => ?_
 replace hS := hS.below hb
 clear H hb
 obtain ⟨y3, hy3, hm⟩ := bindE hm
 refine s_reg [(vI y3)] [4] [(4, [], vB (decide (0 ≤ y3)))] [rB 63 [vL g_s s, vU v_] (vI y3)] H2 (by kernel_rfl) ⟨(slices_Index_uint8_uint8_ok (g_s := g_s) m _ _ _ hy3 _ (s0im s0nil (hS.im 0 rfl))), trivial⟩ fun _ _ H5 hb => ?_
 replace hS := hS.below hb
 clear H2 hb
 replace hS : SH M X w [] _ := hS.sel [] rfl
 refine w_ret ?_
 obtain rfl := someE hm
 exact retR1 H5 rfl rfl ⟨_, rfl, rfl, (hS.sel [] rfl)⟩
theorem slices_Contains_uint8_uint8_ok {g_s : Gh} (m : Nat) (s : List Int) (v_ : Int) (r : Bool) (hm : slices_Contains_uint8_uint8 m s v_ = some r) (w : World) (hL : S0 F0 [eI (tI .u8) s g_s] w ∧ fpl [eI (tI .u8) s g_s] = []) : RetB Tryz.prog 42 ⟨[vL g_s s, vU v_]⟩ (vB r) w := retB_of hL (Tryz.call42 _) (fun w' h => slices_Contains_uint8_uint8_w F0 m   s v_ r hm w' h)

theorem props_Has_w  (M : Av) (m : Nat) (prop : Int) (v_ : TVal) (r : Bool × Int) (hm : props_Has m prop v_ = some r) (w : World) (hS : S0 M [gE1] w) : Calls Tryz.prog 24 ⟨[vI prop, vG [vU v_.Kind, vS v_.Word, vI v_.Num, vU v_.Color.Red, vU v_.Color.Green, vU v_.Color.Blue, vU v_.Color.Alpha]]⟩ w (fun e w' => ∃ v, e = .returned v ∧ v = vW [vB r.1, vI r.2] ∧ SH M (fpl [gE1]) w [] w') := by
 rw [props_Has] at hm
 have hS0 : SH M (fpl [gE1]) w [gE1] w := hS
 generalize hX : fpl [gE1] = X at hS0 ⊢
 clear hS hX
 have hS := hS0
 clear hS0
 refine calls_entryP Tryz.func24 rfl Tryz.ntmps24 rfl fun _ H => ?_
 refine w_seq ?_
 refine wl_start ?_
 have hd := hS.hand [] [0] rfl rfl
 refine m_stp [3, 0] [(0, [], vI prop)] H rfl rfl rfl rfl (o_box [vU v_.Kind, vS v_.Word, vI v_.Num, vU v_.Color.Red, vU v_.Color.Green, vU v_.Color.Blue, vU v_.Color.Alpha] H hd rfl rfl) (fun _ => rfl) fun _ _ v H3 hq => ?_
 clear H hd
 obtain ⟨b1, rfl, hq⟩ := hq
 replace hS : SH M X w [eB b1 [vU v_.Kind, vS v_.Word, vI v_.Num, vU v_.Color.Red, vU v_.Color.Green, vU v_.Color.Blue, vU v_.Color.Alpha], gE1] _ := hS.join [] [0] rfl rfl hq
 clear hq
 refine wl_batch 1 3 [] [0, 3] [(0, [], vI prop), (3, [], vP b1)] [] H3 (by decide) (by kernel_rfl) trivial fun _ _ H5 hb => ?_
 replace hS := hS.below hb
 clear H3 hb
 refine wl_end rfl ?_
 refine w_seq ?_
 obtain ⟨x6, hx6, hm⟩ := letE hm
 refine s_reg [] [0, 3, 12] [(0, [], vI prop), (3, [], vP b1), (12, [], vB x6)] [] H5 (by subst hx6; kernel_rfl) trivial fun _ _ H8 hb => ?_
 replace hS := hS.below hb
 clear H5 hb
 refine w_if H8 rfl (fun hc => ?c40) (fun hc => ?_)
 case c40 =>
  replace hm := bT hc hm
  refine s_reg [] [4, 5] [(4, [], vF), (5, [], vI 2)] [] H8 (by kernel_rfl) trivial fun _ _ H10 hb => ?_
  replace hS := hS.below hb
  clear H8 hb
  replace hS : SH M X w [gE1] _ := hS.sel [1] rfl
  refine w_ret ?_
  obtain rfl := someE hm
  exact retR2 H10 rfl rfl rfl ⟨_, rfl, rfl, (hS.sel [] rfl)⟩
 replace hm := bF hc hm
 refine w_skip ?_
 refine w_seq ?_
 refine wl_start ?_
 obtain ⟨y11, hy11, hm⟩ := bindE hm
 have hd := hS.hand [1] [0, 1] rfl rfl
 refine m_stp [13, 0, 3] [(0, [], vI prop), (3, [], vP b1)] H8 rfl rfl rfl rfl (o_callx H8 rfl rfl (props_Table_ok m _ hy11 _ _ hd)) (fun _ => rfl) fun _ _ v H15 hq => ?_
 clear H8 hd
 obtain ⟨g12, rfl, hq⟩ := hq
 replace hS : SH M X w [eO 82 tyProp y11 g12, eB b1 [vU v_.Kind, vS v_.Word, vI v_.Num, vU v_.Color.Red, vU v_.Color.Green, vU v_.Color.Blue, vU v_.Color.Alpha], gE1] _ := hS.join [1] [0, 1] rfl rfl hq
 clear hq
 obtain ⟨ho16, hm⟩ := chkE hm
 refine wl_batch 1 4 [(vG [vS (gi y11 prop).Name, vB ((gi y11 prop).Inherited), vU ((gi y11 prop).Initial.Kind), vS (gi y11 prop).Initial.Word, vI ((gi y11 prop).Initial.Num), vU ((gi y11 prop).Initial.Color.Red), vU ((gi y11 prop).Initial.Color.Green), vU ((gi y11 prop).Initial.Color.Blue), vU ((gi y11 prop).Initial.Color.Alpha), .slice (g12.s (prop).toNat 0).a (((gi y11 prop).Words).length) (g12.s (prop).toNat 0).c, .slice (g12.s (prop).toNat 1).a (((gi y11 prop).Kinds).length) (g12.s (prop).toNat 1).c, vB ((gi y11 prop).Least)])] [3, 16] [(3, [], vP b1), (16, [], vG [vS (gi y11 prop).Name, vB ((gi y11 prop).Inherited), vU ((gi y11 prop).Initial.Kind), vS (gi y11 prop).Initial.Word, vI ((gi y11 prop).Initial.Num), vU ((gi y11 prop).Initial.Color.Red), vU ((gi y11 prop).Initial.Color.Green), vU ((gi y11 prop).Initial.Color.Blue), vU ((gi y11 prop).Initial.Color.Alpha), .slice (g12.s (prop).toNat 0).a (((gi y11 prop).Words).length) (g12.s (prop).toNat 0).c, .slice (g12.s (prop).toNat 1).a (((gi y11 prop).Kinds).length) (g12.s (prop).toNat 1).c, vB ((gi y11 prop).Least)])] [fun _ => oka g12.a ∧ 0 ≤ prop ∧ prop < ln y11, fun wz => V.atN (ab g12.a) (ao g12.a + (prop).toNat * 12) [vS (gi y11 prop).Name, vB ((gi y11 prop).Inherited), vU ((gi y11 prop).Initial.Kind), vS (gi y11 prop).Initial.Word, vI ((gi y11 prop).Initial.Num), vU ((gi y11 prop).Initial.Color.Red), vU ((gi y11 prop).Initial.Color.Green), vU ((gi y11 prop).Initial.Color.Blue), vU ((gi y11 prop).Initial.Color.Alpha), .slice (g12.s (prop).toNat 0).a (((gi y11 prop).Words).length) (g12.s (prop).toNat 0).c, .slice (g12.s (prop).toNat 1).a (((gi y11 prop).Kinds).length) (g12.s (prop).toNat 1).c, vB ((gi y11 prop).Least)] 0 wz] H15 (by decide) (by kernel_rfl) ⟨((hS.osl 0 rfl).oki ho16), ((hS.osl 0 rfl).atA ho16 0 rfl), trivial⟩ fun _ _ H18 hb => ?_
 replace hS := hS.below hb
 clear H15 hb
 have hd := hS.hand [] [0, 1, 2] rfl rfl
 refine m_stp [6, 3, 16] [(3, [], vP b1), (16, [], vG [vS (gi y11 prop).Name, vB ((gi y11 prop).Inherited), vU ((gi y11 prop).Initial.Kind), vS (gi y11 prop).Initial.Word, vI ((gi y11 prop).Initial.Num), vU ((gi y11 prop).Initial.Color.Red), vU ((gi y11 prop).Initial.Color.Green), vU ((gi y11 prop).Initial.Color.Blue), vU ((gi y11 prop).Initial.Color.Alpha), .slice (g12.s (prop).toNat 0).a (((gi y11 prop).Words).length) (g12.s (prop).toNat 0).c, .slice (g12.s (prop).toNat 1).a (((gi y11 prop).Kinds).length) (g12.s (prop).toNat 1).c, vB ((gi y11 prop).Least)])] H18 rfl rfl rfl rfl (o_alloc [vN, vF, vU 0, vN, vI 0, vU 0, vU 0, vU 0, vU 0, vO, vO, vF] (z := vG [vN, vF, vU 0, vN, vI 0, vU 0, vU 0, vU 0, vU 0, vO, vO, vF]) hd (by kernel_rfl) rfl) (fun _ => rfl) fun _ _ v H21 hq => ?_
 clear H18 hd
 obtain ⟨b19, rfl, hq⟩ := hq
 replace hS : SH M X w [eB b19 [vN, vF, vU 0, vN, vI 0, vU 0, vU 0, vU 0, vU 0, vO, vO, vF], eO 82 tyProp y11 g12, eB b1 [vU v_.Kind, vS v_.Word, vI v_.Num, vU v_.Color.Red, vU v_.Color.Green, vU v_.Color.Blue, vU v_.Color.Alpha], gE1] _ := hS.join [] [0, 1, 2] rfl rfl hq
 clear hq
 have hd := hS.hand [0] [1, 2, 3] rfl rfl
 refine m_stp0 [3, 6] [(3, [], vP b1), (6, [], vP b19)] H21 rfl rfl rfl (o_store [vS (gi y11 prop).Name, vB ((gi y11 prop).Inherited), vU ((gi y11 prop).Initial.Kind), vS (gi y11 prop).Initial.Word, vI ((gi y11 prop).Initial.Num), vU ((gi y11 prop).Initial.Color.Red), vU ((gi y11 prop).Initial.Color.Green), vU ((gi y11 prop).Initial.Color.Blue), vU ((gi y11 prop).Initial.Color.Alpha), .slice (g12.s (prop).toNat 0).a (((gi y11 prop).Words).length) (g12.s (prop).toNat 0).c, .slice (g12.s (prop).toNat 1).a (((gi y11 prop).Kinds).length) (g12.s (prop).toNat 1).c, vB ((gi y11 prop).Least)] H21 hd rfl rfl (by kernel_rfl) rfl rfl rfl) rfl fun _ _ H23 hq => ?_
 clear H21 hd
 obtain ⟨_, hq⟩ := hq
 replace hS : SH M X w [eB b19 [vS (gi y11 prop).Name, vB ((gi y11 prop).Inherited), vU ((gi y11 prop).Initial.Kind), vS (gi y11 prop).Initial.Word, vI ((gi y11 prop).Initial.Num), vU ((gi y11 prop).Initial.Color.Red), vU ((gi y11 prop).Initial.Color.Green), vU ((gi y11 prop).Initial.Color.Blue), vU ((gi y11 prop).Initial.Color.Alpha), .slice (g12.s (prop).toNat 0).a (((gi y11 prop).Words).length) (g12.s (prop).toNat 0).c, .slice (g12.s (prop).toNat 1).a (((gi y11 prop).Kinds).length) (g12.s (prop).toNat 1).c, vB ((gi y11 prop).Least)], eO 82 tyProp y11 g12, eB b1 [vU v_.Kind, vS v_.Word, vI v_.Num, vU v_.Color.Red, vU v_.Color.Green, vU v_.Color.Blue, vU v_.Color.Alpha], gE1] _ := hS.join [0] [1, 2, 3] rfl rfl hq
 clear hq
 refine wl_end rfl ?_
 refine w_seq ?_
 refine w_block ?_
 obtain ⟨y24, hy24, hm⟩ := bindE hm
 refine s_reg [(vG [vU v_.Kind, vS v_.Word, vI v_.Num, vU v_.Color.Red, vU v_.Color.Green, vU v_.Color.Blue, vU v_.Color.Alpha]), (vI y24)] [3, 6, 17] [(3, [], vP b1), (6, [], vP b19), (17, [], vB (y24 != 0))] [rN b1 0 [vU v_.Kind, vS v_.Word, vI v_.Num, vU v_.Color.Red, vU v_.Color.Green, vU v_.Color.Blue, vU v_.Color.Alpha], rB 34 [vG [vU v_.Kind, vS v_.Word, vI v_.Num, vU v_.Color.Red, vU v_.Color.Green, vU v_.Color.Blue, vU v_.Color.Alpha]] (vI y24)] H23 (by kernel_rfl) ⟨((hS.bk 2 rfl).atD rfl), ((props_Check_ok _ _ hy24).b), trivial⟩ fun _ _ H26 hb => ?_
 replace hS := hS.below hb
 clear H23 hb
 refine w_if H26 rfl (fun hc => ?c39) (fun hc => ?_)
 case c39 =>
  replace hm := bT hc hm
  refine s_reg [] [4, 5] [(4, [], vF), (5, [], vI 0)] [] H26 (by kernel_rfl) trivial fun _ _ H28 hb => ?_
  replace hS := hS.below hb
  clear H26 hb
  replace hS : SH M X w [gE1] _ := hS.sel [3] rfl
  refine w_ret ?_
  obtain rfl := someE hm
  exact retR2 H28 rfl rfl rfl ⟨_, rfl, rfl, (hS.sel [] rfl)⟩
 replace hm := bF hc hm
 refine s_reg [(vU v_.Kind)] [3, 6, 21] [(3, [], vP b1), (6, [], vP b19), (21, [], vB (v_.Kind == 1))] [rA b1 0 (vU v_.Kind)] H26 (by kernel_rfl) ⟨((hS.bk 2 rfl).at1 rfl), trivial⟩ fun _ _ H30 hb => ?_
 replace hS := hS.below hb
 clear H26 hb
 refine w_if H30 rfl (fun hc => ?c38) (fun hc => ?_)
 case c38 =>
  replace hm := bT hc hm
  obtain ⟨y31, hy31, hm⟩ := bindE hm
  refine s_reg [(.slice (g12.s (prop).toNat 0).a (((gi y11 prop).Words).length) (g12.s (prop).toNat 0).c), (vS v_.Word), (vB y31)] [4, 5] [(4, [], vB y31), (5, [], vI 0)] [fun wz => V.at1 ⟨b19, 9, none⟩ (.slice (g12.s (prop).toNat 0).a (((gi y11 prop).Words).length) (g12.s (prop).toNat 0).c) wz, rA b1 1 (vS v_.Word), rB 41 [.slice (g12.s (prop).toNat 0).a (((gi y11 prop).Words).length) (g12.s (prop).toNat 0).c, vS v_.Word] (vB y31)] H30 (by kernel_rfl) ⟨((hS.bk 0 rfl).at1 rfl), ((hS.bk 2 rfl).at1 rfl), (slices_Contains_string_string_ok (g_s := (g12.s (prop).toNat 0)) m _ _ _ hy31 _ (s0im s0nil (tyProp_i0 ((hS.osl 1 rfl).el ho16)))), trivial⟩ fun _ _ H33 hb => ?_
  replace hS := hS.below hb
  clear H30 hb
  replace hS : SH M X w [gE1] _ := hS.sel [3] rfl
  refine w_ret ?_
  obtain rfl := someE hm
  exact retR2 H33 rfl rfl rfl ⟨_, rfl, rfl, (hS.sel [] rfl)⟩
 replace hm := bF hc hm
 refine w_skip ?_
 obtain ⟨y34, hy34, hm⟩ := bindE hm
 obtain ⟨x35, hx35, hm⟩ := letE hm
 refine s_reg [(.slice (g12.s (prop).toNat 1).a (((gi y11 prop).Kinds).length) (g12.s (prop).toNat 1).c), (vU v_.Kind), (vB y34), (vB ((gi y11 prop).Least)), (vI v_.Num)] [4, 5] [(4, [], vB x35), (5, [], vI 0)] [fun wz => V.at1 ⟨b19, 10, none⟩ (.slice (g12.s (prop).toNat 1).a (((gi y11 prop).Kinds).length) (g12.s (prop).toNat 1).c) wz, rA b1 0 (vU v_.Kind), rB 42 [.slice (g12.s (prop).toNat 1).a (((gi y11 prop).Kinds).length) (g12.s (prop).toNat 1).c, vU v_.Kind] (vB y34), fun wz => (y34 = true ∧ True → V.at1 ⟨b19, 11, none⟩ (vB ((gi y11 prop).Least)) wz), fun wz => ((!((gi y11 prop).Least)) = false ∧ y34 = true ∧ True → V.at1 ⟨b1, 2, none⟩ (vI v_.Num) wz)] H30 (by subst hx35; kernel_rfl) ⟨((hS.bk 0 rfl).at1 rfl), ((hS.bk 2 rfl).at1 rfl), (slices_Contains_uint8_uint8_ok (g_s := (g12.s (prop).toNat 1)) m _ _ _ hy34 _ (s0im s0nil (tyProp_i1 ((hS.osl 1 rfl).el ho16)))), fun hg => (hS.bk 0 rfl).at1 rfl, fun hg => (hS.bk 2 rfl).at1 rfl, trivial⟩ fun _ _ H37 hb => ?_
 replace hS := hS.below hb
 clear H30 hb
 replace hS : SH M X w [gE1] _ := hS.sel [3] rfl
 refine w_ret ?_
 obtain rfl := someE hm
 exact retR2 H37 rfl rfl rfl ⟨_, rfl, rfl, (hS.sel [] rfl)⟩
theorem props_Has_ok  (m : Nat) (prop : Int) (v_ : TVal) (r : Bool × Int) (hm : props_Has m prop v_ = some r) (w : World) (hL : S0 F0 [gE1] w ∧ fpl [gE1] = []) : RetB Tryz.prog 24 ⟨[vI prop, vG [vU v_.Kind, vS v_.Word, vI v_.Num, vU v_.Color.Red, vU v_.Color.Green, vU v_.Color.Blue, vU v_.Color.Alpha]]⟩ (vW [vB r.1, vI r.2]) w := retB_of hL (Tryz.call24 _) (fun w' h => props_Has_w F0 m   prop v_ r hm w' h)

theorem parseval_Parse_w {g_l_ : Gh} (M : Av) (m : Nat) (prop : Int) (l_ : List TValue) (r : TVal × Int) (hm : parseval_Parse m prop l_ = some r) (w : World) (hS : S0 M [eI tyValue l_ g_l_, gE1] w) : Calls Tryz.prog 10 ⟨[vI prop, vL g_l_ l_]⟩ w (fun e w' => ∃ v, e = .returned v ∧ v = vW [vG [vU r.1.Kind, vS r.1.Word, vI r.1.Num, vU r.1.Color.Red, vU r.1.Color.Green, vU r.1.Color.Blue, vU r.1.Color.Alpha], vI r.2] ∧ SH M (fpl [eI tyValue l_ g_l_, gE1]) w [] w') := by
 rw [parseval_Parse] at hm
 have hS0 : SH M (fpl [eI tyValue l_ g_l_, gE1]) w [eI tyValue l_ g_l_, gE1] w := hS
 generalize hX : fpl [eI tyValue l_ g_l_, gE1] = X at hS0 ⊢
 clear hS hX
 have hS := hS0
 clear hS0
 refine calls_entryP Tryz.func10 rfl Tryz.ntmps10 rfl fun _ H => ?_
 refine w_seq ?_
 refine wl_start ?_
 have hd := hS.hand [] [0, 1] rfl rfl
 refine m_stp [4, 0, 1] [(0, [], vI prop), (1, [], vL g_l_ l_)] H rfl rfl rfl rfl (o_alloc [vU 0, vN, vI 0, vU 0, vU 0, vU 0, vU 0] (z := vG [vU 0, vN, vI 0, vU 0, vU 0, vU 0, vU 0]) hd (by kernel_rfl) rfl) (fun _ => rfl) fun _ _ v H3 hq => ?_
 clear H hd
 obtain ⟨b1, rfl, hq⟩ := hq
 replace hS : SH M X w [eB b1 [vU 0, vN, vI 0, vU 0, vU 0, vU 0, vU 0], eI tyValue l_ g_l_, gE1] _ := hS.join [] [0, 1] rfl rfl hq
 clear hq
 refine wl_batch 1 2 [] [0, 1, 4] [(0, [], vI prop), (1, [], vL g_l_ l_), (4, [], vP b1)] [] H3 (by decide) (by kernel_rfl) trivial fun _ _ H5 hb => ?_
 replace hS := hS.below hb
 clear H3 hb
 refine wl_end rfl ?_
 refine w_seq ?_
 obtain ⟨x6, hx6, hm⟩ := letE hm
 refine s_reg [] [0, 1, 4, 15] [(0, [], vI prop), (1, [], vL g_l_ l_), (4, [], vP b1), (15, [], vB x6)] [] H5 (by subst hx6; kernel_rfl) trivial fun _ _ H8 hb => ?_
 replace hS := hS.below hb
 clear H5 hb
 refine w_if H8 rfl (fun hc => ?c70) (fun hc => ?_)
 case c70 =>
  replace hm := bT hc hm
  refine w_seq ?_
  refine wl_start ?_
  refine wl_batch 0 1 [] [4, 16] [(4, [], vP b1), (16, [], vG [vU 0, vN, vI 0, vU 0, vU 0, vU 0, vU 0])] [] H8 (by decide) (by kernel_rfl) trivial fun _ _ H10 hb => ?_
  replace hS := hS.below hb
  clear H8 hb
  have hd := hS.hand [0] [1, 2] rfl rfl
  refine m_stp0 [4] [(4, [], vP b1)] H10 rfl rfl rfl (o_store [vU 0, vN, vI 0, vU 0, vU 0, vU 0, vU 0] H10 hd rfl rfl (by kernel_rfl) rfl rfl rfl) rfl fun _ _ H12 hq => ?_
  clear H10 hd
  obtain ⟨_, hq⟩ := hq
  replace hS : SH M X w [eB b1 [vU 0, vN, vI 0, vU 0, vU 0, vU 0, vU 0], eI tyValue l_ g_l_, gE1] _ := hS.join [0] [1, 2] rfl rfl hq
  clear hq
  refine wl_batch 2 3 [] [4, 5] [(4, [], vP b1), (5, [], vI 2)] [] H12 (by decide) (by kernel_rfl) trivial fun _ _ H14 hb => ?_
  replace hS := hS.below hb
  clear H12 hb
  refine wl_end rfl ?_
  replace hS : SH M X w [eB b1 [vU 0, vN, vI 0, vU 0, vU 0, vU 0, vU 0], gE1] _ := hS.sel [0, 2] rfl
  refine w_ret ?_
  obtain rfl := someE hm
  exact retR2 H14 rfl (oneRes_agg rfl (hS.bk 0 rfl) Tryz.underlying28 rfl (by kernel_rfl)) rfl ⟨_, rfl, rfl, (hS.sel [] rfl)⟩
 replace hm := bF hc hm
 refine w_skip ?_
 refine w_seq ?_
 refine s_reg [] [0, 1, 4, 19] [(0, [], vI prop), (1, [], vL g_l_ l_), (4, [], vP b1), (19, [], vB ((ln l_) != 1))] [] H8 (by kernel_rfl) trivial fun _ _ H16 hb => ?_
 replace hS := hS.below hb
 clear H8 hb
 refine w_if H16 rfl (fun hc => ?c69) (fun hc => ?_)
 case c69 =>
  replace hm := bT hc hm
  refine w_seq ?_
  refine wl_start ?_
  refine wl_batch 0 1 [] [4, 20] [(4, [], vP b1), (20, [], vG [vU 0, vN, vI 0, vU 0, vU 0, vU 0, vU 0])] [] H16 (by decide) (by kernel_rfl) trivial fun _ _ H18 hb => ?_
  replace hS := hS.below hb
  clear H16 hb
  have hd := hS.hand [0] [1, 2] rfl rfl
  refine m_stp0 [4] [(4, [], vP b1)] H18 rfl rfl rfl (o_store [vU 0, vN, vI 0, vU 0, vU 0, vU 0, vU 0] H18 hd rfl rfl (by kernel_rfl) rfl rfl rfl) rfl fun _ _ H20 hq => ?_
  clear H18 hd
  obtain ⟨_, hq⟩ := hq
  replace hS : SH M X w [eB b1 [vU 0, vN, vI 0, vU 0, vU 0, vU 0, vU 0], eI tyValue l_ g_l_, gE1] _ := hS.join [0] [1, 2] rfl rfl hq
  clear hq
  refine wl_batch 2 3 [] [4, 5] [(4, [], vP b1), (5, [], vI 12)] [] H20 (by decide) (by kernel_rfl) trivial fun _ _ H22 hb => ?_
  replace hS := hS.below hb
  clear H20 hb
  refine wl_end rfl ?_
  replace hS : SH M X w [eB b1 [vU 0, vN, vI 0, vU 0, vU 0, vU 0, vU 0], gE1] _ := hS.sel [0, 2] rfl
  refine w_ret ?_
  obtain rfl := someE hm
  exact retR2 H22 rfl (oneRes_agg rfl (hS.bk 0 rfl) Tryz.underlying28 rfl (by kernel_rfl)) rfl ⟨_, rfl, rfl, (hS.sel [] rfl)⟩
 replace hm := bF hc hm
 refine w_skip ?_
 obtain ⟨z23, hz, hm_z23⟩ := bindE hm
 refine w_cut (fun a' w' => ∃ s_z23 : Unit, z23 = Sum.inr s_z23 ∧ Fr 40 [(4, [], vP b1)] a' ∧ SH M X w [eB b1 [vU 0, vN, vI 0, vU 0, vU 0, vU 0, vU 0], eI tyValue l_ g_l_, gE1] w') ?_ ?_
 ·replace hm := hz
  refine w_seq ?_
  refine wl_start ?_
  obtain ⟨ho24, hm⟩ := chkE hm
  refine wl_batch 0 3 [(vG [vU ((gi l_ (0 : Int)).Token.Kind), vS (gi l_ (0 : Int)).Token.Text, vI ((gi l_ (0 : Int)).Token.Num), vS (gi l_ (0 : Int)).Token.Unit, vB ((gi l_ (0 : Int)).Token.Flag), .slice (g_l_.s ((0 : Int)).toNat 0).a (((gi l_ (0 : Int)).List_).length) (g_l_.s ((0 : Int)).toNat 0).c])] [0, 4, 23] [(0, [], vI prop), (4, [], vP b1), (23, [], vG [vU ((gi l_ (0 : Int)).Token.Kind), vS (gi l_ (0 : Int)).Token.Text, vI ((gi l_ (0 : Int)).Token.Num), vS (gi l_ (0 : Int)).Token.Unit, vB ((gi l_ (0 : Int)).Token.Flag), .slice (g_l_.s ((0 : Int)).toNat 0).a (((gi l_ (0 : Int)).List_).length) (g_l_.s ((0 : Int)).toNat 0).c])] [fun _ => oka g_l_.a ∧ 0 ≤ (0 : Int) ∧ (0 : Int) < ln l_, fun wz => V.atN (ab g_l_.a) (ao g_l_.a + ((0 : Int)).toNat * 6) [vU ((gi l_ (0 : Int)).Token.Kind), vS (gi l_ (0 : Int)).Token.Text, vI ((gi l_ (0 : Int)).Token.Num), vS (gi l_ (0 : Int)).Token.Unit, vB ((gi l_ (0 : Int)).Token.Flag), .slice (g_l_.s ((0 : Int)).toNat 0).a (((gi l_ (0 : Int)).List_).length) (g_l_.s ((0 : Int)).toNat 0).c] 0 wz] H16 (by decide) (by kernel_rfl) ⟨((hS.im 1 rfl).oki ho24), ((hS.im 1 rfl).atA ho24 0 rfl), trivial⟩ fun _ _ H26 hb => ?_
  replace hS := hS.below hb
  clear H16 hb
  replace hS : SH M X w [eI tyValue ((gi l_ (0 : Int)).List_) (g_l_.s ((0 : Int)).toNat 0), eB b1 [vU 0, vN, vI 0, vU 0, vU 0, vU 0, vU 0], eI tyValue l_ g_l_, gE1] _ := hS.addIm (tyValue_i0 ((hS.im 1 rfl).el ho24))
  obtain ⟨y28, hy28, hm⟩ := bindE hm
  have hd := hS.hand [0] [0, 1, 2, 3] rfl rfl
  refine m_stp [24, 0, 4] [(0, [], vI prop), (4, [], vP b1)] H26 rfl rfl rfl rfl (o_callx H26 rfl rfl (parseval_maybe_ok (g_v__0 := (g_l_.s ((0 : Int)).toNat 0)) m _ _ hy28 _ _ hd)) (fun _ => rfl) fun _ _ v H32 hq => ?_
  clear H26 hd
  obtain ⟨g29, rfl, hq⟩ := hq
  replace hS : SH M X w [eO 28 tyVal y28 g29, eI tyValue ((gi l_ (0 : Int)).List_) (g_l_.s ((0 : Int)).toNat 0), eB b1 [vU 0, vN, vI 0, vU 0, vU 0, vU 0, vU 0], eI tyValue l_ g_l_, gE1] _ := hS.join [0] [0, 1, 2, 3] rfl rfl hq
  clear hq
  refine wl_batch 4 6 [] [0, 4, 24, 25, 26] [(0, [], vI prop), (4, [], vP b1), (24, [], vL g29 y28), (25, [], vI (ln y28)), (26, [], vI 0)] [] H32 (by decide) (by kernel_rfl) trivial fun _ _ H34 hb => ?_
  replace hS := hS.below hb
  clear H32 hb
  refine wl_end rfl ?_
  replace hS : SH M X w [eO 28 tyVal y28 g29, eB b1 [vU 0, vN, vI 0, vU 0, vU 0, vU 0, vU 0], eI tyValue l_ g_l_, gE1] _ := hS.sel [0, 2, 3, 4] rfl
  refine w_block ?_
  refine w_loop (fun kk a' w' => ∃ (v35 : Int), parseval_Parse_L1 m prop y28 kk v35 = some _ ∧ Fr 40 [(0, [], vI prop), (4, [], vP b1), (24, [], vL g29 y28), (25, [], vI (ln y28)), (26, [], vI v35)] a' ∧ SH M X w [eO 28 tyVal y28 g29, eB b1 [vU 0, vN, vI 0, vU 0, vU 0, vU 0, vU 0], eI tyValue l_ g_l_, gE1] w') ⟨_, 0, hm, FrG.keep (ks := [0, 4, 24, 25, 26]) H34 (by kernel_rfl), hS⟩ ?_
  clear hm H34 hS
  rintro kk _ _ ⟨v35, hm, H, hS⟩
  cases kk with
  | zero => exact noneE hm
  | succ kk =>
   rw [parseval_Parse_L1] at hm
   refine s_reg [] [0, 4, 24, 25, 26, 27] [(0, [], vI prop), (4, [], vP b1), (24, [], vL g29 y28), (25, [], vI (ln y28)), (26, [], vI v35), (27, [], vB (decide (v35 < (ln y28))))] [] H (by kernel_rfl) trivial fun _ _ H37 hb => ?_
   replace hS := hS.below hb
   clear H hb
   refine w_seq ?_
   refine w_if H37 rfl (fun hc => ?_) (fun hc => ?c60)
   case c60 =>
    replace hm := bF hc hm
    refine w_exit rfl ?_
    obtain rfl := someE hm
    replace hS : SH M X w [eB b1 [vU 0, vN, vI 0, vU 0, vU 0, vU 0, vU 0], eI tyValue l_ g_l_, gE1] _ := hS.sel [1, 2, 3] rfl
    exact ⟨_, rfl, FrG.keep (ks := [4]) H37 (by kernel_rfl), hS⟩
   replace hm := bT hc hm
   refine w_skip ?_
   refine w_seq ?_
   refine w_block ?_
   refine w_seq ?_
   refine wl_start ?_
   obtain ⟨ho38, hm⟩ := chkE hm
   refine wl_batch 0 2 [(vG [vU ((gi y28 v35).Kind), vS (gi y28 v35).Word, vI ((gi y28 v35).Num), vU ((gi y28 v35).Color.Red), vU ((gi y28 v35).Color.Green), vU ((gi y28 v35).Color.Blue), vU ((gi y28 v35).Color.Alpha)])] [0, 4, 24, 25, 26, 29] [(0, [], vI prop), (4, [], vP b1), (24, [], vL g29 y28), (25, [], vI (ln y28)), (26, [], vI v35), (29, [], vG [vU ((gi y28 v35).Kind), vS (gi y28 v35).Word, vI ((gi y28 v35).Num), vU ((gi y28 v35).Color.Red), vU ((gi y28 v35).Color.Green), vU ((gi y28 v35).Color.Blue), vU ((gi y28 v35).Color.Alpha)])] [fun _ => oka g29.a ∧ 0 ≤ v35 ∧ v35 < ln y28, fun wz => V.atN (ab g29.a) (ao g29.a + (v35).toNat * 7) [vU ((gi y28 v35).Kind), vS (gi y28 v35).Word, vI ((gi y28 v35).Num), vU ((gi y28 v35).Color.Red), vU ((gi y28 v35).Color.Green), vU ((gi y28 v35).Color.Blue), vU ((gi y28 v35).Color.Alpha)] 0 wz] H37 (by decide) (by kernel_rfl) ⟨((hS.osl 0 rfl).oki ho38), ((hS.osl 0 rfl).atA ho38 0 rfl), trivial⟩ fun _ _ H40 hb => ?_
   replace hS := hS.below hb
   clear H37 hb
   have hd := hS.hand [] [0, 1, 2, 3] rfl rfl
   refine m_stp [7, 0, 4, 24, 25, 26, 29] [(0, [], vI prop), (4, [], vP b1), (24, [], vL g29 y28), (25, [], vI (ln y28)), (26, [], vI v35), (29, [], vG [vU ((gi y28 v35).Kind), vS (gi y28 v35).Word, vI ((gi y28 v35).Num), vU ((gi y28 v35).Color.Red), vU ((gi y28 v35).Color.Green), vU ((gi y28 v35).Color.Blue), vU ((gi y28 v35).Color.Alpha)])] H40 rfl rfl rfl rfl (o_alloc [vU 0, vN, vI 0, vU 0, vU 0, vU 0, vU 0] (z := vG [vU 0, vN, vI 0, vU 0, vU 0, vU 0, vU 0]) hd (by kernel_rfl) rfl) (fun _ => rfl) fun _ _ v H43 hq => ?_
   clear H40 hd
   obtain ⟨b41, rfl, hq⟩ := hq
   replace hS : SH M X w [eB b41 [vU 0, vN, vI 0, vU 0, vU 0, vU 0, vU 0], eO 28 tyVal y28 g29, eB b1 [vU 0, vN, vI 0, vU 0, vU 0, vU 0, vU 0], eI tyValue l_ g_l_, gE1] _ := hS.join [] [0, 1, 2, 3] rfl rfl hq
   clear hq
   have hd := hS.hand [0] [1, 2, 3, 4] rfl rfl
   refine m_stp0 [0, 4, 7, 24, 25, 26] [(0, [], vI prop), (4, [], vP b1), (7, [], vP b41), (24, [], vL g29 y28), (25, [], vI (ln y28)), (26, [], vI v35)] H43 rfl rfl rfl (o_store [vU ((gi y28 v35).Kind), vS (gi y28 v35).Word, vI ((gi y28 v35).Num), vU ((gi y28 v35).Color.Red), vU ((gi y28 v35).Color.Green), vU ((gi y28 v35).Color.Blue), vU ((gi y28 v35).Color.Alpha)] H43 hd rfl rfl (by kernel_rfl) rfl rfl rfl) rfl fun _ _ H45 hq => ?_
   clear H43 hd
   obtain ⟨_, hq⟩ := hq
   replace hS : SH M X w [eB b41 [vU ((gi y28 v35).Kind), vS (gi y28 v35).Word, vI ((gi y28 v35).Num), vU ((gi y28 v35).Color.Red), vU ((gi y28 v35).Color.Green), vU ((gi y28 v35).Color.Blue), vU ((gi y28 v35).Color.Alpha)], eO 28 tyVal y28 g29, eB b1 [vU 0, vN, vI 0, vU 0, vU 0, vU 0, vU 0], eI tyValue l_ g_l_, gE1] _ := hS.join [0] [1, 2, 3, 4] rfl rfl hq
   clear hq
   refine wl_end rfl ?_
   obtain ⟨y46, hy46, hm⟩ := bindE hm
   refine s_reg [(vG [vU ((gi y28 v35).Kind), vS (gi y28 v35).Word, vI ((gi y28 v35).Num), vU ((gi y28 v35).Color.Red), vU ((gi y28 v35).Color.Green), vU ((gi y28 v35).Color.Blue), vU ((gi y28 v35).Color.Alpha)]), (vW [vB y46.1, vI y46.2])] [0, 4, 7, 8, 24, 25, 26] [(0, [], vI prop), (4, [], vP b1), (7, [], vP b41), (8, [], vB y46.1), (24, [], vL g29 y28), (25, [], vI (ln y28)), (26, [], vI v35)] [rN b41 0 [vU ((gi y28 v35).Kind), vS (gi y28 v35).Word, vI ((gi y28 v35).Num), vU ((gi y28 v35).Color.Red), vU ((gi y28 v35).Color.Green), vU ((gi y28 v35).Color.Blue), vU ((gi y28 v35).Color.Alpha)], rB 24 [vI prop, vG [vU ((gi y28 v35).Kind), vS (gi y28 v35).Word, vI ((gi y28 v35).Num), vU ((gi y28 v35).Color.Red), vU ((gi y28 v35).Color.Green), vU ((gi y28 v35).Color.Blue), vU ((gi y28 v35).Color.Alpha)]] (vW [vB y46.1, vI y46.2])] H45 (by kernel_rfl) ⟨((hS.bk 0 rfl).atD rfl), (props_Has_ok 64 _ _ _ hy46 _ (s0im s0nil (hS.im 4 rfl))), trivial⟩ fun _ _ H48 hb => ?_
   replace hS := hS.below hb
   clear H45 hb
   refine s_reg [] [0, 4, 7, 24, 25, 26, 36] [(0, [], vI prop), (4, [], vP b1), (7, [], vP b41), (24, [], vL g29 y28), (25, [], vI (ln y28)), (26, [], vI v35), (36, [], vB y46.1)] [] H48 (by kernel_rfl) trivial fun _ _ H50 hb => ?_
   replace hS := hS.below hb
   clear H48 hb
   refine w_if H50 rfl (fun hc => ?_) (fun hc => ?c59)
   case c59 =>
    replace hm := bF hc hm
    refine w_skip ?_
    refine w_reg [] [0, 4, 24, 25, 26] [(0, [], vI prop), (4, [], vP b1), (24, [], vL g29 y28), (25, [], vI (ln y28)), (26, [], vI (w64 (v35 + 1)))] [] H50 (by kernel_rfl) trivial fun _ _ H58 hb => ?_
    replace hS := hS.below hb
    clear H50 hb
    replace hS : SH M X w [eO 28 tyVal y28 g29, eB b1 [vU 0, vN, vI 0, vU 0, vU 0, vU 0, vU 0], eI tyValue l_ g_l_, gE1] _ := hS.sel [1, 2, 3, 4] rfl
    exact ⟨_, Nat.lt_succ_self _, w64 (v35 + 1), hm, FrG.keep (ks := [0, 4, 24, 25, 26]) H58 (by kernel_rfl), hS⟩
   replace hm := bT hc hm
   refine w_seq ?_
   refine wl_start ?_
   refine wl_batch 0 1 [(vG [vU ((gi y28 v35).Kind), vS (gi y28 v35).Word, vI ((gi y28 v35).Num), vU ((gi y28 v35).Color.Red), vU ((gi y28 v35).Color.Green), vU ((gi y28 v35).Color.Blue), vU ((gi y28 v35).Color.Alpha)])] [4, 37] [(4, [], vP b1), (37, [], vG [vU ((gi y28 v35).Kind), vS (gi y28 v35).Word, vI ((gi y28 v35).Num), vU ((gi y28 v35).Color.Red), vU ((gi y28 v35).Color.Green), vU ((gi y28 v35).Color.Blue), vU ((gi y28 v35).Color.Alpha)])] [rN b41 0 [vU ((gi y28 v35).Kind), vS (gi y28 v35).Word, vI ((gi y28 v35).Num), vU ((gi y28 v35).Color.Red), vU ((gi y28 v35).Color.Green), vU ((gi y28 v35).Color.Blue), vU ((gi y28 v35).Color.Alpha)]] H50 (by decide) (by kernel_rfl) ⟨((hS.bk 0 rfl).atD rfl), trivial⟩ fun _ _ H52 hb => ?_
   replace hS := hS.below hb
   clear H50 hb
   have hd := hS.hand [2] [0, 1, 3, 4] rfl rfl
   refine m_stp0 [4] [(4, [], vP b1)] H52 rfl rfl rfl (o_store [vU ((gi y28 v35).Kind), vS (gi y28 v35).Word, vI ((gi y28 v35).Num), vU ((gi y28 v35).Color.Red), vU ((gi y28 v35).Color.Green), vU ((gi y28 v35).Color.Blue), vU ((gi y28 v35).Color.Alpha)] H52 hd rfl rfl (by kernel_rfl) rfl rfl rfl) rfl fun _ _ H54 hq => ?_
   clear H52 hd
   obtain ⟨_, hq⟩ := hq
   replace hS : SH M X w [eB b1 [vU ((gi y28 v35).Kind), vS (gi y28 v35).Word, vI ((gi y28 v35).Num), vU ((gi y28 v35).Color.Red), vU ((gi y28 v35).Color.Green), vU ((gi y28 v35).Color.Blue), vU ((gi y28 v35).Color.Alpha)], eB b41 [vU ((gi y28 v35).Kind), vS (gi y28 v35).Word, vI ((gi y28 v35).Num), vU ((gi y28 v35).Color.Red), vU ((gi y28 v35).Color.Green), vU ((gi y28 v35).Color.Blue), vU ((gi y28 v35).Color.Alpha)], eO 28 tyVal y28 g29, eI tyValue l_ g_l_, gE1] _ := hS.join [2] [0, 1, 3, 4] rfl rfl hq
   clear hq
   refine wl_batch 2 3 [] [4, 5] [(4, [], vP b1), (5, [], vI 0)] [] H54 (by decide) (by kernel_rfl) trivial fun _ _ H56 hb => ?_
   replace hS := hS.below hb
   clear H54 hb
   refine wl_end rfl ?_
   replace hS : SH M X w [eB b1 [vU ((gi y28 v35).Kind), vS (gi y28 v35).Word, vI ((gi y28 v35).Num), vU ((gi y28 v35).Color.Red), vU ((gi y28 v35).Color.Green), vU ((gi y28 v35).Color.Blue), vU ((gi y28 v35).Color.Alpha)], eO 28 tyVal y28 g29, eI tyValue l_ g_l_, gE1] _ := hS.sel [0, 2, 3, 4] rfl
   refine w_ret ?_
   obtain rfl := someE hm
   have hm := hm_z23
   obtain rfl := someE hm
   exact retR2 H56 rfl (oneRes_agg rfl (hS.bk 0 rfl) Tryz.underlying28 rfl (by kernel_rfl)) rfl ⟨_, rfl, rfl, (hS.sel [] rfl)⟩
 ·rintro _ _ ⟨s_z23, hz, H, hS⟩
  subst hz
  replace hm := sumR hm_z23
  replace hS : SH M X w [eB b1 [vU 0, vN, vI 0, vU 0, vU 0, vU 0, vU 0], gE1] _ := hS.sel [0, 2] rfl
  refine w_seq ?_
  refine wl_start ?_
  refine wl_batch 0 1 [] [4, 39] [(4, [], vP b1), (39, [], vG [vU 0, vN, vI 0, vU 0, vU 0, vU 0, vU 0])] [] H (by decide) (by kernel_rfl) trivial fun _ _ H63 hb => ?_
  replace hS := hS.below hb
  clear H hb
  have hd := hS.hand [0] [1] rfl rfl
  refine m_stp0 [4] [(4, [], vP b1)] H63 rfl rfl rfl (o_store [vU 0, vN, vI 0, vU 0, vU 0, vU 0, vU 0] H63 hd rfl rfl (by kernel_rfl) rfl rfl rfl) rfl fun _ _ H65 hq => ?_
  clear H63 hd
  obtain ⟨_, hq⟩ := hq
  replace hS : SH M X w [eB b1 [vU 0, vN, vI 0, vU 0, vU 0, vU 0, vU 0], gE1] _ := hS.join [0] [1] rfl rfl hq
  clear hq
  refine wl_batch 2 3 [] [4, 5] [(4, [], vP b1), (5, [], vI 12)] [] H65 (by decide) (by kernel_rfl) trivial fun _ _ H67 hb => ?_
  replace hS := hS.below hb
  clear H65 hb
  refine wl_end rfl ?_
  refine w_ret ?_
  obtain rfl := someE hm
  exact retR2 H67 rfl (oneRes_agg rfl (hS.bk 0 rfl) Tryz.underlying28 rfl (by kernel_rfl)) rfl ⟨_, rfl, rfl, (hS.sel [] rfl)⟩
theorem parseval_Parse_ok {g_l_ : Gh} (m : Nat) (prop : Int) (l_ : List TValue) (r : TVal × Int) (hm : parseval_Parse m prop l_ = some r) (w : World) (hL : S0 F0 [eI tyValue l_ g_l_, gE1] w ∧ fpl [eI tyValue l_ g_l_, gE1] = []) : RetB Tryz.prog 10 ⟨[vI prop, vL g_l_ l_]⟩ (vW [vG [vU r.1.Kind, vS r.1.Word, vI r.1.Num, vU r.1.Color.Red, vU r.1.Color.Green, vU r.1.Color.Blue, vU r.1.Color.Alpha], vI r.2]) w := retB_of hL (Tryz.call10 _) (fun w' h => parseval_Parse_w F0 m   prop l_ r hm w' h)

theorem law26_reads_w  (M : Av) (m : Nat) (prop : Int) (s : Str) (want : TVal) (r : Bool) (hm : law26_reads m prop s want = some r) (w : World) (hS : S0 M [gE1] w) : Calls Tryz.prog 18 ⟨[vI prop, vS s, vG [vU want.Kind, vS want.Word, vI want.Num, vU want.Color.Red, vU want.Color.Green, vU want.Color.Blue, vU want.Color.Alpha]]⟩ w (fun e w' => ∃ v, e = .returned v ∧ v = vB r ∧ SH M (fpl [gE1]) w [] w') := by
 rw [law26_reads] at hm
 have hS0 : SH M (fpl [gE1]) w [gE1] w := hS
 generalize hX : fpl [gE1] = X at hS0 ⊢
 clear hS hX
 have hS := hS0
 clear hS0
 refine calls_entryP Tryz.func18 rfl Tryz.ntmps18 rfl fun _ H => ?_
 refine w_seq ?_
 refine wl_start ?_
 have hd := hS.hand [] [0] rfl rfl
 refine m_stp [5, 0, 1] [(0, [], vI prop), (1, [], vS s)] H rfl rfl rfl rfl (o_box [vU want.Kind, vS want.Word, vI want.Num, vU want.Color.Red, vU want.Color.Green, vU want.Color.Blue, vU want.Color.Alpha] H hd rfl rfl) (fun _ => rfl) fun _ _ v H3 hq => ?_
 clear H hd
 obtain ⟨b1, rfl, hq⟩ := hq
 replace hS : SH M X w [eB b1 [vU want.Kind, vS want.Word, vI want.Num, vU want.Color.Red, vU want.Color.Green, vU want.Color.Blue, vU want.Color.Alpha], gE1] _ := hS.join [] [0] rfl rfl hq
 clear hq
 refine wl_batch 1 2 [] [0, 1, 5] [(0, [], vI prop), (1, [], vS s), (5, [], vP b1)] [] H3 (by decide) (by kernel_rfl) trivial fun _ _ H5 hb => ?_
 replace hS := hS.below hb
 clear H3 hb
 refine wl_end rfl ?_
 refine w_seq ?_
 refine wl_start ?_
 refine wl_batch 0 2 [] [5, 10, 11] [(5, [], vP b1), (10, [], vI prop), (11, [], vS s)] [] H5 (by decide) (by kernel_rfl) trivial fun _ _ H7 hb => ?_
 replace hS := hS.below hb
 clear H5 hb
 obtain ⟨y8, hy8, hm⟩ := bindE hm
 have hd := hS.hand [] [0, 1] rfl rfl
 refine m_stp [12, 5, 10] [(5, [], vP b1), (10, [], vI prop)] H7 rfl rfl rfl rfl (o_callx H7 rfl rfl (r04_Of_ok 300 _ _ hy8 _ _ hd)) (fun _ => rfl) fun _ _ v H12 hq => ?_
 clear H7 hd
 obtain ⟨g9, rfl, hq⟩ := hq
 replace hS : SH M X w [eI tyValue y8 g9, eB b1 [vU want.Kind, vS want.Word, vI want.Num, vU want.Color.Red, vU want.Color.Green, vU want.Color.Blue, vU want.Color.Alpha], gE1] _ := hS.join [] [0, 1] rfl rfl hq
 clear hq
 obtain ⟨y13, hy13, hm⟩ := bindE hm
 refine wl_batch 3 7 [(vW [vG [vU y13.1.Kind, vS y13.1.Word, vI y13.1.Num, vU y13.1.Color.Red, vU y13.1.Color.Green, vU y13.1.Color.Blue, vU y13.1.Color.Alpha], vI y13.2])] [5, 14, 15] [(5, [], vP b1), (14, [], vG [vU y13.1.Kind, vS y13.1.Word, vI y13.1.Num, vU y13.1.Color.Red, vU y13.1.Color.Green, vU y13.1.Color.Blue, vU y13.1.Color.Alpha]), (15, [], vI y13.2)] [rB 10 [vI prop, vL g9 y8] (vW [vG [vU y13.1.Kind, vS y13.1.Word, vI y13.1.Num, vU y13.1.Color.Red, vU y13.1.Color.Green, vU y13.1.Color.Blue, vU y13.1.Color.Alpha], vI y13.2])] H12 (by decide) (by kernel_rfl) ⟨(parseval_Parse_ok (g_l_ := g9) m _ _ _ hy13 _ (s0im (s0im s0nil (hS.im 2 rfl)) (hS.im 0 rfl))), trivial⟩ fun _ _ H15 hb => ?_
 replace hS := hS.below hb
 clear H12 hb
 have hd := hS.hand [] [0, 1, 2] rfl rfl
 refine m_stp [7, 5, 14, 15] [(5, [], vP b1), (14, [], vG [vU y13.1.Kind, vS y13.1.Word, vI y13.1.Num, vU y13.1.Color.Red, vU y13.1.Color.Green, vU y13.1.Color.Blue, vU y13.1.Color.Alpha]), (15, [], vI y13.2)] H15 rfl rfl rfl rfl (o_alloc [vU 0, vN, vI 0, vU 0, vU 0, vU 0, vU 0] (z := vG [vU 0, vN, vI 0, vU 0, vU 0, vU 0, vU 0]) hd (by kernel_rfl) rfl) (fun _ => rfl) fun _ _ v H18 hq => ?_
 clear H15 hd
 obtain ⟨b16, rfl, hq⟩ := hq
 replace hS : SH M X w [eB b16 [vU 0, vN, vI 0, vU 0, vU 0, vU 0, vU 0], eI tyValue y8 g9, eB b1 [vU want.Kind, vS want.Word, vI want.Num, vU want.Color.Red, vU want.Color.Green, vU want.Color.Blue, vU want.Color.Alpha], gE1] _ := hS.join [] [0, 1, 2] rfl rfl hq
 clear hq
 have hd := hS.hand [0] [1, 2, 3] rfl rfl
 refine m_stp0 [5, 7, 15] [(5, [], vP b1), (7, [], vP b16), (15, [], vI y13.2)] H18 rfl rfl rfl (o_store [vU y13.1.Kind, vS y13.1.Word, vI y13.1.Num, vU y13.1.Color.Red, vU y13.1.Color.Green, vU y13.1.Color.Blue, vU y13.1.Color.Alpha] H18 hd rfl rfl (by kernel_rfl) rfl rfl rfl) rfl fun _ _ H20 hq => ?_
 clear H18 hd
 obtain ⟨_, hq⟩ := hq
 replace hS : SH M X w [eB b16 [vU y13.1.Kind, vS y13.1.Word, vI y13.1.Num, vU y13.1.Color.Red, vU y13.1.Color.Green, vU y13.1.Color.Blue, vU y13.1.Color.Alpha], eI tyValue y8 g9, eB b1 [vU want.Kind, vS want.Word, vI want.Num, vU want.Color.Red, vU want.Color.Green, vU want.Color.Blue, vU want.Color.Alpha], gE1] _ := hS.join [0] [1, 2, 3] rfl rfl hq
 clear hq
 refine wl_batch 9 10 [] [5, 7, 8] [(5, [], vP b1), (7, [], vP b16), (8, [], vI y13.2)] [] H20 (by decide) (by kernel_rfl) trivial fun _ _ H22 hb => ?_
 replace hS := hS.below hb
 clear H20 hb
 refine wl_end rfl ?_
 replace hS : SH M X w [eB b16 [vU y13.1.Kind, vS y13.1.Word, vI y13.1.Num, vU y13.1.Color.Red, vU y13.1.Color.Green, vU y13.1.Color.Blue, vU y13.1.Color.Alpha], eB b1 [vU want.Kind, vS want.Word, vI want.Num, vU want.Color.Red, vU want.Color.Green, vU want.Color.Blue, vU want.Color.Alpha], gE1] _ := hS.sel [0, 2, 3] rfl
 obtain ⟨x23, hx23, hm⟩ := letE hm
 refine s_reg [(vG [vU y13.1.Kind, vS y13.1.Word, vI y13.1.Num, vU y13.1.Color.Red, vU y13.1.Color.Green, vU y13.1.Color.Blue, vU y13.1.Color.Alpha]), (vG [vU want.Kind, vS want.Word, vI want.Num, vU want.Color.Red, vU want.Color.Green, vU want.Color.Blue, vU want.Color.Alpha])] [6] [(6, [], vB x23)] [fun wz => ((y13.2 == 0) = true ∧ True → V.atN b16 0 [vU y13.1.Kind, vS y13.1.Word, vI y13.1.Num, vU y13.1.Color.Red, vU y13.1.Color.Green, vU y13.1.Color.Blue, vU y13.1.Color.Alpha] 0 wz), fun wz => ((y13.2 == 0) = true ∧ True → V.atN b1 0 [vU want.Kind, vS want.Word, vI want.Num, vU want.Color.Red, vU want.Color.Green, vU want.Color.Blue, vU want.Color.Alpha] 0 wz)] H22 (by subst hx23; kernel_rfl) ⟨fun hg => (hS.bk 0 rfl).atD rfl, fun hg => (hS.bk 1 rfl).atD rfl, trivial⟩ fun _ _ H25 hb => ?_
 replace hS := hS.below hb
 clear H22 hb
 replace hS : SH M X w [gE1] _ := hS.sel [2] rfl
 refine w_ret ?_
 obtain rfl := someE hm
 exact retR1 H25 rfl rfl ⟨_, rfl, rfl, (hS.sel [] rfl)⟩
theorem law26_reads_ok  (m : Nat) (prop : Int) (s : Str) (want : TVal) (r : Bool) (hm : law26_reads m prop s want = some r) (w : World) (hL : S0 F0 [gE1] w ∧ fpl [gE1] = []) : RetB Tryz.prog 18 ⟨[vI prop, vS s, vG [vU want.Kind, vS want.Word, vI want.Num, vU want.Color.Red, vU want.Color.Green, vU want.Color.Blue, vU want.Color.Alpha]]⟩ (vB r) w := retB_of hL (Tryz.call18 _) (fun w' h => law26_reads_w F0 m   prop s want r hm w' h)

theorem law26_color_w  (M : Av) (m : Nat) (s : Str) (want : TColor) (r : Bool) (hm : law26_color m s want = some r) (w : World) (hS : S0 M [gE1] w) : Calls Tryz.prog 16 ⟨[vS s, vG [vU want.Red, vU want.Green, vU want.Blue, vU want.Alpha]]⟩ w (fun e w' => ∃ v, e = .returned v ∧ v = vB r ∧ SH M (fpl [gE1]) w [] w') := by
 rw [law26_color] at hm
 have hS0 : SH M (fpl [gE1]) w [gE1] w := hS
 generalize hX : fpl [gE1] = X at hS0 ⊢
 clear hS hX
 have hS := hS0
 clear hS0
 refine calls_entryP Tryz.func16 rfl Tryz.ntmps16 rfl fun _ H => ?_
 refine w_seq ?_
 refine wl_start ?_
 have hd := hS.hand [] [0] rfl rfl
 refine m_stp [3, 0] [(0, [], vS s)] H rfl rfl rfl rfl (o_box [vU want.Red, vU want.Green, vU want.Blue, vU want.Alpha] H hd rfl rfl) (fun _ => rfl) fun _ _ v H3 hq => ?_
 clear H hd
 obtain ⟨b1, rfl, hq⟩ := hq
 replace hS : SH M X w [eB b1 [vU want.Red, vU want.Green, vU want.Blue, vU want.Alpha], gE1] _ := hS.join [] [0] rfl rfl hq
 clear hq
 refine wl_batch 1 2 [] [0, 3] [(0, [], vS s), (3, [], vP b1)] [] H3 (by decide) (by kernel_rfl) trivial fun _ _ H5 hb => ?_
 replace hS := hS.below hb
 clear H3 hb
 refine wl_end rfl ?_
 refine w_seq ?_
 refine wl_start ?_
 refine wl_batch 0 1 [] [0, 3, 8] [(0, [], vS s), (3, [], vP b1), (8, [], vS s)] [] H5 (by decide) (by kernel_rfl) trivial fun _ _ H7 hb => ?_
 replace hS := hS.below hb
 clear H5 hb
 obtain ⟨y8, hy8, hm⟩ := bindE hm
 have hd := hS.hand [] [0, 1] rfl rfl
 refine m_stp [9, 0, 3] [(0, [], vS s), (3, [], vP b1)] H7 rfl rfl rfl rfl (o_callx H7 rfl rfl (r04_Of_ok 300 _ _ hy8 _ _ hd)) (fun _ => rfl) fun _ _ v H12 hq => ?_
 clear H7 hd
 obtain ⟨g9, rfl, hq⟩ := hq
 replace hS : SH M X w [eI tyValue y8 g9, eB b1 [vU want.Red, vU want.Green, vU want.Blue, vU want.Alpha], gE1] _ := hS.join [] [0, 1] rfl rfl hq
 clear hq
 obtain ⟨y13, hy13, hm⟩ := bindE hm
 refine wl_batch 2 6 [(vW [vG [vU y13.1.Red, vU y13.1.Green, vU y13.1.Blue, vU y13.1.Alpha], vI y13.2])] [0, 3, 11, 12] [(0, [], vS s), (3, [], vP b1), (11, [], vG [vU y13.1.Red, vU y13.1.Green, vU y13.1.Blue, vU y13.1.Alpha]), (12, [], vI y13.2)] [rB 14 [vL g9 y8] (vW [vG [vU y13.1.Red, vU y13.1.Green, vU y13.1.Blue, vU y13.1.Alpha], vI y13.2])] H12 (by decide) (by kernel_rfl) ⟨(parseval_Color_ok (g_l_ := g9) 300 _ _ hy13 _ (s0im s0nil (hS.im 0 rfl))), trivial⟩ fun _ _ H15 hb => ?_
 replace hS := hS.below hb
 clear H12 hb
 have hd := hS.hand [] [0, 1, 2] rfl rfl
 refine m_stp [5, 0, 3, 11, 12] [(0, [], vS s), (3, [], vP b1), (11, [], vG [vU y13.1.Red, vU y13.1.Green, vU y13.1.Blue, vU y13.1.Alpha]), (12, [], vI y13.2)] H15 rfl rfl rfl rfl (o_alloc [vU 0, vU 0, vU 0, vU 0] (z := vG [vU 0, vU 0, vU 0, vU 0]) hd (by kernel_rfl) rfl) (fun _ => rfl) fun _ _ v H18 hq => ?_
 clear H15 hd
 obtain ⟨b16, rfl, hq⟩ := hq
 replace hS : SH M X w [eB b16 [vU 0, vU 0, vU 0, vU 0], eI tyValue y8 g9, eB b1 [vU want.Red, vU want.Green, vU want.Blue, vU want.Alpha], gE1] _ := hS.join [] [0, 1, 2] rfl rfl hq
 clear hq
 have hd := hS.hand [0] [1, 2, 3] rfl rfl
 refine m_stp0 [0, 3, 5, 12] [(0, [], vS s), (3, [], vP b1), (5, [], vP b16), (12, [], vI y13.2)] H18 rfl rfl rfl (o_store [vU y13.1.Red, vU y13.1.Green, vU y13.1.Blue, vU y13.1.Alpha] H18 hd rfl rfl (by kernel_rfl) rfl rfl rfl) rfl fun _ _ H20 hq => ?_
 clear H18 hd
 obtain ⟨_, hq⟩ := hq
 replace hS : SH M X w [eB b16 [vU y13.1.Red, vU y13.1.Green, vU y13.1.Blue, vU y13.1.Alpha], eI tyValue y8 g9, eB b1 [vU want.Red, vU want.Green, vU want.Blue, vU want.Alpha], gE1] _ := hS.join [0] [1, 2, 3] rfl rfl hq
 clear hq
 refine wl_batch 8 9 [] [0, 3, 5, 6] [(0, [], vS s), (3, [], vP b1), (5, [], vP b16), (6, [], vI y13.2)] [] H20 (by decide) (by kernel_rfl) trivial fun _ _ H22 hb => ?_
 replace hS := hS.below hb
 clear H20 hb
 refine wl_end rfl ?_
 replace hS : SH M X w [eB b16 [vU y13.1.Red, vU y13.1.Green, vU y13.1.Blue, vU y13.1.Alpha], eB b1 [vU want.Red, vU want.Green, vU want.Blue, vU want.Alpha], gE1] _ := hS.sel [0, 2, 3] rfl
 obtain ⟨x23, hx23, hm⟩ := letE hm
 obtain ⟨y24, hy24, hm⟩ := bindE hm
 refine s_reg [(vG [vU y13.1.Red, vU y13.1.Green, vU y13.1.Blue, vU y13.1.Alpha]), (vG [vU want.Red, vU want.Green, vU want.Blue, vU want.Alpha]), (vG [vU y13.1.Red, vU y13.1.Green, vU y13.1.Blue, vU y13.1.Alpha]), (vB y24)] [4] [(4, [], vB (cond x23 y24 false))] [fun wz => ((y13.2 == 0) = true ∧ True → V.atN b16 0 [vU y13.1.Red, vU y13.1.Green, vU y13.1.Blue, vU y13.1.Alpha] 0 wz), fun wz => ((y13.2 == 0) = true ∧ True → V.atN b1 0 [vU want.Red, vU want.Green, vU want.Blue, vU want.Alpha] 0 wz), fun wz => (x23 = true ∧ True → V.atN b16 0 [vU y13.1.Red, vU y13.1.Green, vU y13.1.Blue, vU y13.1.Alpha] 0 wz), fun wz => (x23 = true ∧ True → RetB Tryz.prog 18 ⟨[vI 3, vS s, vG [vU 7, vN, vI 0, vU y13.1.Red, vU y13.1.Green, vU y13.1.Blue, vU y13.1.Alpha]]⟩ (vB y24) wz)] H22 (by subst hx23; kernel_rfl) ⟨fun hg => (hS.bk 0 rfl).atD rfl, fun hg => (hS.bk 1 rfl).atD rfl, fun hg => (hS.bk 0 rfl).atD rfl, fun hg => law26_reads_ok 300 _ _ _ _ (bT (hg.1) hy24) _ (s0im s0nil (hS.im 2 rfl)), trivial⟩ fun _ _ H26 hb => ?_
 replace hS := hS.below hb
 clear H22 hb
 replace hS : SH M X w [gE1] _ := hS.sel [2] rfl
 refine w_ret ?_
 obtain rfl := someE hm
 exact retR1 H26 rfl rfl ⟨_, rfl, rfl, (hS.sel [] rfl)⟩
theorem law26_color_ok  (m : Nat) (s : Str) (want : TColor) (r : Bool) (hm : law26_color m s want = some r) (w : World) (hL : S0 F0 [gE1] w ∧ fpl [gE1] = []) : RetB Tryz.prog 16 ⟨[vS s, vG [vU want.Red, vU want.Green, vU want.Blue, vU want.Alpha]]⟩ (vB r) w := retB_of hL (Tryz.call16 _) (fun w' h => law26_color_w F0 m   s want r hm w' h)

theorem law26_none_w  (M : Av) (m : Nat) (prop : Int) (s : Str) (r : Bool) (hm : law26_none m prop s = some r) (w : World) (hS : S0 M [gE1] w) : Calls Tryz.prog 20 ⟨[vI prop, vS s]⟩ w (fun e w' => ∃ v, e = .returned v ∧ v = vB r ∧ SH M (fpl [gE1]) w [] w') := by
 rw [law26_none] at hm
 have hS0 : SH M (fpl [gE1]) w [gE1] w := hS
 generalize hX : fpl [gE1] = X at hS0 ⊢
 clear hS hX
 have hS := hS0
 clear hS0
 refine calls_entryP Tryz.func20 rfl Tryz.ntmps20 rfl fun _ H => ?_
 refine s_reg [] [0, 1] [(0, [], vI prop), (1, [], vS s)] [] H (by kernel_rfl) trivial fun _ _ H2 hb => ?_
 replace hS := hS.below hb
 clear H hb
 refine w_seq ?_
 refine wl_start ?_
 refine wl_batch 0 2 [] [8, 9] [(8, [], vI prop), (9, [], vS s)] [] H2 (by decide) (by kernel_rfl) trivial fun _ _ H4 hb => ?_
 replace hS := hS.below hb
 clear H2 hb
 obtain ⟨y5, hy5, hm⟩ := bindE hm
 have hd := hS.hand [] [0] rfl rfl
 refine m_stp [10, 8] [(8, [], vI prop)] H4 rfl rfl rfl rfl (o_callx H4 rfl rfl (r04_Of_ok 300 _ _ hy5 _ _ hd)) (fun _ => rfl) fun _ _ v H9 hq => ?_
 clear H4 hd
 obtain ⟨g6, rfl, hq⟩ := hq
 replace hS : SH M X w [eI tyValue y5 g6, gE1] _ := hS.join [] [0] rfl rfl hq
 clear hq
 obtain ⟨y10, hy10, hm⟩ := bindE hm
 refine wl_batch 3 7 [(vW [vG [vU y10.1.Kind, vS y10.1.Word, vI y10.1.Num, vU y10.1.Color.Red, vU y10.1.Color.Green, vU y10.1.Color.Blue, vU y10.1.Color.Alpha], vI y10.2])] [12, 13] [(12, [], vG [vU y10.1.Kind, vS y10.1.Word, vI y10.1.Num, vU y10.1.Color.Red, vU y10.1.Color.Green, vU y10.1.Color.Blue, vU y10.1.Color.Alpha]), (13, [], vI y10.2)] [rB 10 [vI prop, vL g6 y5] (vW [vG [vU y10.1.Kind, vS y10.1.Word, vI y10.1.Num, vU y10.1.Color.Red, vU y10.1.Color.Green, vU y10.1.Color.Blue, vU y10.1.Color.Alpha], vI y10.2])] H9 (by decide) (by kernel_rfl) ⟨(parseval_Parse_ok (g_l_ := g6) m _ _ _ hy10 _ (s0im (s0im s0nil (hS.im 1 rfl)) (hS.im 0 rfl))), trivial⟩ fun _ _ H12 hb => ?_
 replace hS := hS.below hb
 clear H9 hb
 have hd := hS.hand [] [0, 1] rfl rfl
 refine m_stp [5, 12, 13] [(12, [], vG [vU y10.1.Kind, vS y10.1.Word, vI y10.1.Num, vU y10.1.Color.Red, vU y10.1.Color.Green, vU y10.1.Color.Blue, vU y10.1.Color.Alpha]), (13, [], vI y10.2)] H12 rfl rfl rfl rfl (o_alloc [vU 0, vN, vI 0, vU 0, vU 0, vU 0, vU 0] (z := vG [vU 0, vN, vI 0, vU 0, vU 0, vU 0, vU 0]) hd (by kernel_rfl) rfl) (fun _ => rfl) fun _ _ v H15 hq => ?_
 clear H12 hd
 obtain ⟨b13, rfl, hq⟩ := hq
 replace hS : SH M X w [eB b13 [vU 0, vN, vI 0, vU 0, vU 0, vU 0, vU 0], eI tyValue y5 g6, gE1] _ := hS.join [] [0, 1] rfl rfl hq
 clear hq
 have hd := hS.hand [0] [1, 2] rfl rfl
 refine m_stp0 [5, 13] [(5, [], vP b13), (13, [], vI y10.2)] H15 rfl rfl rfl (o_store [vU y10.1.Kind, vS y10.1.Word, vI y10.1.Num, vU y10.1.Color.Red, vU y10.1.Color.Green, vU y10.1.Color.Blue, vU y10.1.Color.Alpha] H15 hd rfl rfl (by kernel_rfl) rfl rfl rfl) rfl fun _ _ H17 hq => ?_
 clear H15 hd
 obtain ⟨_, hq⟩ := hq
 replace hS : SH M X w [eB b13 [vU y10.1.Kind, vS y10.1.Word, vI y10.1.Num, vU y10.1.Color.Red, vU y10.1.Color.Green, vU y10.1.Color.Blue, vU y10.1.Color.Alpha], eI tyValue y5 g6, gE1] _ := hS.join [0] [1, 2] rfl rfl hq
 clear hq
 refine wl_batch 9 10 [] [5, 6] [(5, [], vP b13), (6, [], vI y10.2)] [] H17 (by decide) (by kernel_rfl) trivial fun _ _ H19 hb => ?_
 replace hS := hS.below hb
 clear H17 hb
 refine wl_end rfl ?_
 replace hS : SH M X w [eB b13 [vU y10.1.Kind, vS y10.1.Word, vI y10.1.Num, vU y10.1.Color.Red, vU y10.1.Color.Green, vU y10.1.Color.Blue, vU y10.1.Color.Alpha], gE1] _ := hS.sel [0, 2] rfl
 obtain ⟨x20, hx20, hm⟩ := letE hm
 refine s_reg [(vG [vU y10.1.Kind, vS y10.1.Word, vI y10.1.Num, vU y10.1.Color.Red, vU y10.1.Color.Green, vU y10.1.Color.Blue, vU y10.1.Color.Alpha])] [4] [(4, [], vB x20)] [fun wz => ((y10.2 == 12) = true ∧ True → V.atN b13 0 [vU y10.1.Kind, vS y10.1.Word, vI y10.1.Num, vU y10.1.Color.Red, vU y10.1.Color.Green, vU y10.1.Color.Blue, vU y10.1.Color.Alpha] 0 wz)] H19 (by subst hx20; kernel_rfl) ⟨fun hg => (hS.bk 0 rfl).atD rfl, trivial⟩ fun _ _ H22 hb => ?_
 replace hS := hS.below hb
 clear H19 hb
 replace hS : SH M X w [gE1] _ := hS.sel [1] rfl
 refine w_ret ?_
 obtain rfl := someE hm
 exact retR1 H22 rfl rfl ⟨_, rfl, rfl, (hS.sel [] rfl)⟩
theorem law26_none_ok  (m : Nat) (prop : Int) (s : Str) (r : Bool) (hm : law26_none m prop s = some r) (w : World) (hL : S0 F0 [gE1] w ∧ fpl [gE1] = []) : RetB Tryz.prog 20 ⟨[vI prop, vS s]⟩ (vB r) w := retB_of hL (Tryz.call20 _) (fun w' h => law26_none_w F0 m   prop s r hm w' h)

theorem strings_Join_w {g_elems : Gh} (M : Av) (m : Nat) (elems : List Str) (sep : Str) (r : Str) (hm : strings_Join m elems sep = some r) (w : World) (hS : S0 M [eI tS elems g_elems] w) : Calls Tryz.prog 29 ⟨[vL g_elems elems, vS sep]⟩ w (fun e w' => ∃ v, e = .returned v ∧ v = vS r ∧ SH M (fpl [eI tS elems g_elems]) w [] w') := by
 rw [strings_Join] at hm
 have hS0 : SH M (fpl [eI tS elems g_elems]) w [eI tS elems g_elems] w := hS
 generalize hX : fpl [eI tS elems g_elems] = X at hS0 ⊢
 clear hS hX
 have hS := hS0
 clear hS0
 refine calls_entryP Tryz.func29 rfl Tryz.ntmps29 rfl fun _ H => ?_
 refine s_reg [] [0, 1] [(0, [], vL g_elems elems), (1, [], vS sep)] [] H (by kernel_rfl) trivial fun _ _ H2 hb => ?_
 replace hS := hS.below hb
 clear H hb
 refine w_seq ?_
 refine s_reg [] [0, 1, 12] [(0, [], vL g_elems elems), (1, [], vS sep), (12, [], vI (ln elems))] [] H2 (by kernel_rfl) trivial fun _ _ H4 hb => ?_
 replace hS := hS.below hb
 clear H2 hb
 refine w_block ?_
 refine s_reg [] [0, 1, 12, 13] [(0, [], vL g_elems elems), (1, [], vS sep), (12, [], vI (ln elems)), (13, [], vB ((ln elems) == 0))] [] H4 (by kernel_rfl) trivial fun _ _ H6 hb => ?_
 replace hS := hS.below hb
 clear H4 hb
 refine w_if H6 rfl (fun hc => ?c111) (fun hc => ?_)
 case c111 =>
  replace hm := bT hc hm
  refine s_reg [] [4] [(4, [], vN)] [] H6 (by kernel_rfl) trivial fun _ _ H8 hb => ?_
  replace hS := hS.below hb
  clear H6 hb
  replace hS : SH M X w [] _ := hS.sel [] rfl
  refine w_ret ?_
  obtain rfl := someE hm
  exact retR1 H8 rfl rfl ⟨_, rfl, rfl, (hS.sel [] rfl)⟩
 replace hm := bF hc hm
 refine s_reg [] [0, 1, 15] [(0, [], vL g_elems elems), (1, [], vS sep), (15, [], vB ((ln elems) == 1))] [] H6 (by kernel_rfl) trivial fun _ _ H10 hb => ?_
 replace hS := hS.below hb
 clear H6 hb
 refine w_if H10 rfl (fun hc => ?c110) (fun hc => ?_)
 case c110 =>
  replace hm := bT hc hm
  obtain ⟨ho11, hm⟩ := chkE hm
  refine s_reg [(vS (gi elems (0 : Int)))] [4] [(4, [], vS (gi elems (0 : Int)))] [fun _ => oka g_elems.a ∧ 0 ≤ (0 : Int) ∧ (0 : Int) < ln elems, fun wz => V.at1 ⟨ab g_elems.a, ao g_elems.a + ((0 : Int)).toNat * 1, none⟩ (vS (gi elems (0 : Int))) wz] H10 (by kernel_rfl) ⟨((hS.im 0 rfl).oki ho11), ((hS.im 0 rfl).at1 ho11 0 rfl), trivial⟩ fun _ _ H13 hb => ?_
  replace hS := hS.below hb
  clear H10 hb
  replace hS : SH M X w [] _ := hS.sel [] rfl
  refine w_ret ?_
  obtain rfl := someE hm
  exact retR1 H13 rfl rfl ⟨_, rfl, rfl, (hS.sel [] rfl)⟩
 replace hm := bF hc hm
 refine w_skip ?_
 refine s_reg [] [0, 1, 5] [(0, [], vL g_elems elems), (1, [], vS sep), (5, [], vI 0)] [] H10 (by kernel_rfl) trivial fun _ _ H15 hb => ?_
 replace hS := hS.below hb
 clear H10 hb
 obtain ⟨z16, hz, hm⟩ := bindE hm
 refine w_cut (fun a' w' => Fr 75 [(0, [], vL g_elems elems), (1, [], vS sep), (5, [], vI z16)] a' ∧ SH M X w [eI tS elems g_elems] w') ?_ ?_
 ·replace hm := hz
  refine s_reg [] [0, 1, 5, 22] [(0, [], vL g_elems elems), (1, [], vS sep), (5, [], vI 0), (22, [], vB (decide (0 < (ln sep))))] [] H15 (by kernel_rfl) trivial fun _ _ H18 hb => ?_
  replace hS := hS.below hb
  clear H15 hb
  refine w_if H18 rfl (fun hc => ?_) (fun hc => ?c27)
  case c27 =>
   replace hm := bF hc hm
   refine w_skip ?_
   obtain rfl := someE hm
   exact ⟨FrG.keep (ks := [0, 1, 5]) H18 (by kernel_rfl), hS⟩
  replace hm := bT hc hm
  refine w_seq ?_
  obtain ⟨ho19, hm⟩ := chkE hm
  obtain ⟨x20, hx20, hm⟩ := letE hm
  refine s_reg [] [0, 1, 5, 29] [(0, [], vL g_elems elems), (1, [], vS sep), (5, [], vI 0), (29, [], vB (decide (x20 ≤ (ln sep))))] [fun _ => (w64 ((ln elems) - 1)) ≠ 0] H18 (by subst hx20; kernel_rfl) ⟨ho19, trivial⟩ fun _ _ H22 hb => ?_
  replace hS := hS.below hb
  clear H18 hb
  refine w_if H22 rfl (fun hc => ?c26) (fun hc => ?_)
  case c26 =>
   replace hm := bT hc hm
   exact noneE hm
  replace hm := bF hc hm
  refine w_skip ?_
  obtain ⟨x23, hx23, hm⟩ := letE hm
  refine w_reg [] [0, 1, 5] [(0, [], vL g_elems elems), (1, [], vS sep), (5, [], vI x23)] [] H22 (by subst hx23; kernel_rfl) trivial fun _ _ H25 hb => ?_
  replace hS := hS.below hb
  clear H22 hb
  obtain rfl := someE hm
  exact ⟨FrG.keep (ks := [0, 1, 5]) H25 (by kernel_rfl), hS⟩
 ·rintro _ _ ⟨H, hS⟩
  obtain ⟨z28, hz, hm⟩ := bindE hm
  refine w_cut (fun a' w' => Fr 75 [(0, [], vL g_elems elems), (1, [], vS sep), (5, [], vI z28)] a' ∧ SH M X w [eI tS elems g_elems] w') ?_ ?_
  ·replace hm := hz
   refine s_reg [] [0, 1, 5, 39, 40, 41] [(0, [], vL g_elems elems), (1, [], vS sep), (5, [], vI z16), (39, [], vL g_elems elems), (40, [], vI (ln elems)), (41, [], vI 0)] [] H (by kernel_rfl) trivial fun _ _ H30 hb => ?_
   replace hS := hS.below hb
   clear H hb
   refine w_block ?_
   refine w_loop (fun kk a' w' => ∃ (v31 : Int) (v32 : Int), strings_Join_L1 m elems kk v31 v32 = some _ ∧ Fr 75 [(0, [], vL g_elems elems), (1, [], vS sep), (39, [], vL g_elems elems), (40, [], vI (ln elems)), (5, [], vI v31), (41, [], vI v32)] a' ∧ SH M X w [eI tS elems g_elems] w') ⟨_, z16, 0, hm, FrG.keep (ks := [0, 1, 39, 40, 5, 41]) H30 (by kernel_rfl), hS⟩ ?_
   clear hm H30 hS
   rintro kk _ _ ⟨v31, v32, hm, H, hS⟩
   cases kk with
   | zero => exact noneE hm
   | succ kk =>
    rw [strings_Join_L1] at hm
    refine s_reg [] [0, 1, 5, 39, 40, 41, 42] [(0, [], vL g_elems elems), (1, [], vS sep), (5, [], vI v31), (39, [], vL g_elems elems), (40, [], vI (ln elems)), (41, [], vI v32), (42, [], vB (decide (v32 < (ln elems))))] [] H (by kernel_rfl) trivial fun _ _ H34 hb => ?_
    replace hS := hS.below hb
    clear H hb
    refine w_seq ?_
    refine w_if H34 rfl (fun hc => ?_) (fun hc => ?c46)
    case c46 =>
     replace hm := bF hc hm
     refine w_exit rfl ?_
     obtain rfl := someE hm
     exact ⟨FrG.keep (ks := [0, 1, 5]) H34 (by kernel_rfl), hS⟩
    replace hm := bT hc hm
    refine w_skip ?_
    refine w_seq ?_
    refine w_block ?_
    obtain ⟨ho35, hm⟩ := chkE hm
    refine s_reg [(vS (gi elems v32))] [0, 1, 5, 7, 39, 40, 41] [(0, [], vL g_elems elems), (1, [], vS sep), (5, [], vI v31), (7, [], vS (gi elems v32)), (39, [], vL g_elems elems), (40, [], vI (ln elems)), (41, [], vI v32)] [fun _ => oka g_elems.a ∧ 0 ≤ v32 ∧ v32 < ln elems, fun wz => V.at1 ⟨ab g_elems.a, ao g_elems.a + (v32).toNat * 1, none⟩ (vS (gi elems v32)) wz] H34 (by kernel_rfl) ⟨((hS.im 0 rfl).oki ho35), ((hS.im 0 rfl).at1 ho35 0 rfl), trivial⟩ fun _ _ H37 hb => ?_
    replace hS := hS.below hb
    clear H34 hb
    refine w_seq ?_
    obtain ⟨x38, hx38, hm⟩ := letE hm
    refine s_reg [] [0, 1, 5, 7, 39, 40, 41, 49] [(0, [], vL g_elems elems), (1, [], vS sep), (5, [], vI v31), (7, [], vS (gi elems v32)), (39, [], vL g_elems elems), (40, [], vI (ln elems)), (41, [], vI v32), (49, [], vB x38)] [] H37 (by subst hx38; kernel_rfl) trivial fun _ _ H40 hb => ?_
    replace hS := hS.below hb
    clear H37 hb
    refine w_if H40 rfl (fun hc => ?c45) (fun hc => ?_)
    case c45 =>
     replace hm := bT hc hm
     exact noneE hm
    replace hm := bF hc hm
    refine w_skip ?_
    refine w_reg [] [0, 1, 5, 39, 40, 41] [(0, [], vL g_elems elems), (1, [], vS sep), (5, [], vI (w64 (v31 + (ln (gi elems v32))))), (39, [], vL g_elems elems), (40, [], vI (ln elems)), (41, [], vI v32)] [] H40 (by kernel_rfl) trivial fun _ _ H42 hb => ?_
    replace hS := hS.below hb
    clear H40 hb
    refine w_reg [] [0, 1, 5, 39, 40, 41] [(0, [], vL g_elems elems), (1, [], vS sep), (5, [], vI (w64 (v31 + (ln (gi elems v32))))), (39, [], vL g_elems elems), (40, [], vI (ln elems)), (41, [], vI (w64 (v32 + 1)))] [] H42 (by kernel_rfl) trivial fun _ _ H44 hb => ?_
    replace hS := hS.below hb
    clear H42 hb
    exact ⟨_, Nat.lt_succ_self _, w64 (v31 + (ln (gi elems v32))), w64 (v32 + 1), hm, FrG.keep (ks := [0, 1, 39, 40, 5, 41]) H44 (by kernel_rfl), hS⟩
  ·rintro _ _ ⟨H, hS⟩
   refine w_seq ?_
   refine wl_start ?_
   have hd := hS.hand [] [0] rfl rfl
   refine m_stp [8, 0, 1, 5] [(0, [], vL g_elems elems), (1, [], vS sep), (5, [], vI z28)] H rfl rfl rfl rfl (o_allocB 5 (z := vG [vQ, vO]) hd (by kernel_rfl) rfl) (fun _ => rfl) fun _ _ v H50 hq => ?_
   clear H hd
   obtain ⟨b48, rfl, hq⟩ := hq
   replace hS : SH M X w [Ent.bld 89 5 b48 ([] : Str) (.nil), eI tS elems g_elems] _ := hS.join [] [0] rfl rfl hq
   clear hq
   refine wl_end rfl ?_
   refine w_seq ?_
   refine wl_start ?_
   refine wl_batch 0 1 [] [0, 1, 8, 56] [(0, [], vL g_elems elems), (1, [], vS sep), (8, [], vP b48), (56, [], vI z28)] [] H50 (by decide) (by kernel_rfl) trivial fun _ _ H52 hb => ?_
   replace hS := hS.below hb
   clear H50 hb
   obtain ⟨ho53, hm⟩ := chkE hm
   have hd := hS.hand [0] [1] rfl rfl
   refine m_stp [57, 0, 1, 8] [(0, [], vL g_elems elems), (1, [], vS sep), (8, [], vP b48)] H52 rfl rfl rfl rfl (o_callx H52 rfl rfl (bld_Gr z28 ho53 hd)) (fun _ => rfl) fun _ _ v H55 hq => ?_
   clear H52 hd
   obtain ⟨g56, rfl, hq⟩ := hq
   replace hS : SH M X w [Ent.bld 89 5 b48 ([] : Str) g56, eI tS elems g_elems] _ := hS.join [0] [1] rfl rfl hq
   clear hq
   refine wl_end rfl ?_
   refine w_seq ?_
   refine wl_start ?_
   obtain ⟨ho57, hm⟩ := chkE hm
   refine wl_batch 0 3 [(vS (gi elems (0 : Int)))] [0, 1, 8, 60] [(0, [], vL g_elems elems), (1, [], vS sep), (8, [], vP b48), (60, [], vS (gi elems (0 : Int)))] [fun _ => oka g_elems.a ∧ 0 ≤ (0 : Int) ∧ (0 : Int) < ln elems, fun wz => V.at1 ⟨ab g_elems.a, ao g_elems.a + ((0 : Int)).toNat * 1, none⟩ (vS (gi elems (0 : Int))) wz] H55 (by decide) (by kernel_rfl) ⟨((hS.im 1 rfl).oki ho57), ((hS.im 1 rfl).at1 ho57 0 rfl), trivial⟩ fun _ _ H59 hb => ?_
   replace hS := hS.below hb
   clear H55 hb
   obtain ⟨ho60, hm⟩ := chkE hm
   obtain ⟨q61, hq61, hm⟩ := letE hm
   have hd := hS.hand [0] [1] rfl rfl
   refine m_stp [61, 0, 1, 8] [(0, [], vL g_elems elems), (1, [], vS sep), (8, [], vP b48)] H59 rfl rfl rfl rfl (o_callx H59 rfl rfl (bld_WS (gi elems (0 : Int)) ho60 hd)) (fun _ => rfl) fun _ _ v H63 hq => ?_
   clear H59 hd
   obtain ⟨g64, rfl, hq⟩ := hq
   rw [← hq61] at hq
   replace hS : SH M X w [Ent.bld 89 5 b48 q61 g64, eI tS elems g_elems] _ := hS.join [0] [1] rfl rfl hq
   clear hq
   refine wl_end rfl ?_
   obtain ⟨z65, hz, hm⟩ := bindE hm
   refine w_cut (fun a' w' => ∃ (g102 : Gh), Fr 75 [(8, [], vP b48)] a' ∧ SH M X w [Ent.bld 89 5 b48 z65 g102, eI tS elems g_elems] w') ?_ ?_
   ·replace hm := hz
    refine w_seq ?_
    refine wl_start ?_
    refine wl_batch 0 1 [] [1, 8, 62] [(1, [], vS sep), (8, [], vP b48), (62, [], vL g_elems elems)] [] H63 (by decide) (by kernel_rfl) trivial fun _ _ H67 hb => ?_
    replace hS := hS.below hb
    clear H63 hb
    obtain ⟨ho68, hm⟩ := chkE hm
    obtain ⟨q69, hq69, hm⟩ := letE hm
    have hd := hS.hand [1] [0, 1] rfl rfl
    refine m_stp [63, 1, 8] [(1, [], vS sep), (8, [], vP b48)] H67 rfl rfl rfl rfl (o_sub (T := tS) (E := 9) (g := g_elems) (q := elems) (1 : Int) (ln elems) (.some (vI 1)) .none H67 hd (hd.im 0 rfl) rfl rfl rfl rfl rfl rfl (.inr ⟨_, rfl⟩) (.inl ⟨rfl, rfl⟩) (by kernel_rfl) (by kernel_rfl) ho68) (fun _ => rfl) fun _ _ v H71 hq => ?_
    clear H67 hd
    obtain ⟨g72, rfl, hq⟩ := hq
    rw [← hq69] at hq
    rw [← hq69] at H71
    replace hS : SH M X w [eI tS q69 g72, eI tS elems g_elems, Ent.bld 89 5 b48 q61 g64, eI tS elems g_elems] _ := hS.join [1] [0, 1] rfl rfl hq
    clear hq
    refine wl_batch 2 4 [] [1, 8, 63, 64, 65] [(1, [], vS sep), (8, [], vP b48), (63, [], vL g72 q69), (64, [], vI (ln q69)), (65, [], vI 0)] [] H71 (by decide) (by kernel_rfl) trivial fun _ _ H75 hb => ?_
    replace hS := hS.below hb
    clear H71 hb
    refine wl_end rfl ?_
    replace hS : SH M X w [eI tS q69 g72, eI tS elems g_elems, Ent.bld 89 5 b48 q61 g64] _ := hS.sel [0, 1, 2] rfl
    refine w_block ?_
    refine w_loop (fun kk a' w' => ∃ (v76 : Int) (v77 : Str) (g78 : Gh), strings_Join_L2 m sep q69 kk v76 v77 = some _ ∧ Fr 75 [(1, [], vS sep), (8, [], vP b48), (63, [], vL g72 q69), (64, [], vI (ln q69)), (65, [], vI v76)] a' ∧ SH M X w [eI tS q69 g72, eI tS elems g_elems, Ent.bld 89 5 b48 v77 g78] w') ⟨_, 0, q61, g64, hm, FrG.keep (ks := [1, 8, 63, 64, 65]) H75 (by kernel_rfl), hS⟩ ?_
    clear hm H75 hS
    rintro kk _ _ ⟨v76, v77, g78, hm, H, hS⟩
    cases kk with
    | zero => exact noneE hm
    | succ kk =>
     rw [strings_Join_L2] at hm
     refine s_reg [] [1, 8, 63, 64, 65, 66] [(1, [], vS sep), (8, [], vP b48), (63, [], vL g72 q69), (64, [], vI (ln q69)), (65, [], vI v76), (66, [], vB (decide (v76 < (ln q69))))] [] H (by kernel_rfl) trivial fun _ _ H80 hb => ?_
     replace hS := hS.below hb
     clear H hb
     refine w_seq ?_
     refine w_if H80 rfl (fun hc => ?_) (fun hc => ?c100)
     case c100 =>
      replace hm := bF hc hm
      refine w_exit rfl ?_
      obtain rfl := someE hm
      replace hS : SH M X w [Ent.bld 89 5 b48 v77 g78, eI tS elems g_elems] _ := hS.sel [2, 1] rfl
      exact ⟨g78, FrG.keep (ks := [8]) H80 (by kernel_rfl), hS⟩
     replace hm := bT hc hm
     refine w_skip ?_
     refine w_seq ?_
     refine w_block ?_
     obtain ⟨ho81, hm⟩ := chkE hm
     refine s_reg [(vS (gi q69 v76))] [1, 8, 10, 63, 64, 65] [(1, [], vS sep), (8, [], vP b48), (10, [], vS (gi q69 v76)), (63, [], vL g72 q69), (64, [], vI (ln q69)), (65, [], vI v76)] [fun _ => oka g72.a ∧ 0 ≤ v76 ∧ v76 < ln q69, fun wz => V.at1 ⟨ab g72.a, ao g72.a + (v76).toNat * 1, none⟩ (vS (gi q69 v76)) wz] H80 (by kernel_rfl) ⟨((hS.im 0 rfl).oki ho81), ((hS.im 0 rfl).at1 ho81 0 rfl), trivial⟩ fun _ _ H83 hb => ?_
     replace hS := hS.below hb
     clear H80 hb
     refine w_seq ?_
     refine wl_start ?_
     refine wl_batch 0 1 [] [1, 8, 10, 63, 64, 65, 69] [(1, [], vS sep), (8, [], vP b48), (10, [], vS (gi q69 v76)), (63, [], vL g72 q69), (64, [], vI (ln q69)), (65, [], vI v76), (69, [], vS sep)] [] H83 (by decide) (by kernel_rfl) trivial fun _ _ H85 hb => ?_
     replace hS := hS.below hb
     clear H83 hb
     obtain ⟨ho86, hm⟩ := chkE hm
     obtain ⟨q87, hq87, hm⟩ := letE hm
     have hd := hS.hand [2] [0, 1] rfl rfl
     refine m_stp [70, 1, 8, 10, 63, 64, 65] [(1, [], vS sep), (8, [], vP b48), (10, [], vS (gi q69 v76)), (63, [], vL g72 q69), (64, [], vI (ln q69)), (65, [], vI v76)] H85 rfl rfl rfl rfl (o_callx H85 rfl rfl (bld_WS sep ho86 hd)) (fun _ => rfl) fun _ _ v H89 hq => ?_
     clear H85 hd
     obtain ⟨g90, rfl, hq⟩ := hq
     rw [← hq87] at hq
     replace hS : SH M X w [Ent.bld 89 5 b48 q87 g90, eI tS q69 g72, eI tS elems g_elems] _ := hS.join [2] [0, 1] rfl rfl hq
     clear hq
     refine wl_end rfl ?_
     refine wl_start ?_
     refine wl_batch 0 1 [] [1, 8, 63, 64, 65, 71] [(1, [], vS sep), (8, [], vP b48), (63, [], vL g72 q69), (64, [], vI (ln q69)), (65, [], vI v76), (71, [], vS (gi q69 v76))] [] H89 (by decide) (by kernel_rfl) trivial fun _ _ H92 hb => ?_
     replace hS := hS.below hb
     clear H89 hb
     obtain ⟨ho93, hm⟩ := chkE hm
     obtain ⟨q94, hq94, hm⟩ := letE hm
     have hd := hS.hand [0] [1, 2] rfl rfl
     refine m_stp [72, 1, 8, 63, 64, 65] [(1, [], vS sep), (8, [], vP b48), (63, [], vL g72 q69), (64, [], vI (ln q69)), (65, [], vI v76)] H92 rfl rfl rfl rfl (o_callx H92 rfl rfl (bld_WS (gi q69 v76) ho93 hd)) (fun _ => rfl) fun _ _ v H96 hq => ?_
     clear H92 hd
     obtain ⟨g97, rfl, hq⟩ := hq
     rw [← hq94] at hq
     replace hS : SH M X w [Ent.bld 89 5 b48 q94 g97, eI tS q69 g72, eI tS elems g_elems] _ := hS.join [0] [1, 2] rfl rfl hq
     clear hq
     refine wl_end rfl ?_
     refine w_reg [] [1, 8, 63, 64, 65] [(1, [], vS sep), (8, [], vP b48), (63, [], vL g72 q69), (64, [], vI (ln q69)), (65, [], vI (w64 (v76 + 1)))] [] H96 (by kernel_rfl) trivial fun _ _ H99 hb => ?_
     replace hS := hS.below hb
     clear H96 hb
     replace hS : SH M X w [eI tS q69 g72, eI tS elems g_elems, Ent.bld 89 5 b48 q94 g97] _ := hS.sel [1, 2, 0] rfl
     exact ⟨_, Nat.lt_succ_self _, w64 (v76 + 1), q94, g97, hm, FrG.keep (ks := [1, 8, 63, 64, 65]) H99 (by kernel_rfl), hS⟩
   ·rintro _ _ ⟨g102, H, hS⟩
    replace hS : SH M X w [Ent.bld 89 5 b48 z65 g102] _ := hS.sel [0] rfl
    refine w_seq ?_
    refine wl_start ?_
    have hd := hS.hand [0] [] rfl rfl
    refine m_stp [74] [] H rfl rfl rfl rfl (o_callx H rfl rfl (bld_St hd)) (fun _ => rfl) fun _ _ v H104 hq => ?_
    clear H hd
    obtain ⟨rfl, hq⟩ := hq
    replace hS : SH M X w [] _ := hS.join [0] [] rfl rfl hq
    clear hq
    refine wl_batch 1 2 [] [4] [(4, [], vS z65)] [] H104 (by decide) (by kernel_rfl) trivial fun _ _ H106 hb => ?_
    replace hS := hS.below hb
    clear H104 hb
    refine wl_end rfl ?_
    refine w_ret ?_
    obtain rfl := someE hm
    exact retR1 H106 rfl rfl ⟨_, rfl, rfl, (hS.sel [] rfl)⟩
theorem strings_Join_ok {g_elems : Gh} (m : Nat) (elems : List Str) (sep : Str) (r : Str) (hm : strings_Join m elems sep = some r) (w : World) (hL : S0 F0 [eI tS elems g_elems] w ∧ fpl [eI tS elems g_elems] = []) : RetB Tryz.prog 29 ⟨[vL g_elems elems, vS sep]⟩ (vS r) w := retB_of hL (Tryz.call29 _) (fun w' h => strings_Join_w F0 m   elems sep r hm w' h)

theorem strconv_small_w  (M : Av) (i : Int) (r : Str) (hm : strconv_small i = some r) (w : World) (hS : S0 M [] w) : Calls Tryz.prog 66 ⟨[vI i]⟩ w (fun e w' => ∃ v, e = .returned v ∧ v = vS r ∧ SH M (fpl []) w [] w') := by
 rw [strconv_small] at hm
 have hS0 : SH M (fpl []) w [] w := hS
 generalize hX : fpl [] = X at hS0 ⊢
 clear hS hX
 have hS := hS0
 clear hS0
 refine calls_entryP Tryz.func66 rfl Tryz.ntmps66 rfl fun _ H => ?_
 refine s_reg [] [0] [(0, [], vI i)] [] H (by kernel_rfl) trivial fun _ _ H2 hb => ?_
 replace hS := hS.below hb
 clear H hb
 refine w_seq ?_
 refine s_reg [] [0, 4] [(0, [], vI i), (4, [], vB (decide (i < 10)))] [] H2 (by kernel_rfl) trivial fun _ _ H4 hb => ?_
 replace hS := hS.below hb
 clear H2 hb
 refine w_if H4 rfl (fun hc => ?c13) (fun hc => ?_)
 case c13 =>
  replace hm := bT hc hm
  obtain ⟨ho5, hm⟩ := chkE hm
  obtain ⟨x6, hx6, hm⟩ := letE hm
  refine s_reg [] [2] [(2, [], vS x6)] [fun _ => 0 ≤ i ∧ i ≤ (w64 (i + 1)) ∧ (w64 (i + 1)) ≤ ln [48, 49, 50, 51, 52, 53, 54, 55, 56, 57, 97, 98, 99, 100, 101, 102, 103, 104, 105, 106, 107, 108, 109, 110, 111, 112, 113, 114, 115, 116, 117, 118, 119, 120, 121, 122]] H4 (by subst hx6; kernel_rfl) ⟨ho5, trivial⟩ fun _ _ H8 hb => ?_
  replace hS := hS.below hb
  clear H4 hb
  refine w_ret ?_
  obtain rfl := someE hm
  exact retR1 H8 rfl rfl ⟨_, rfl, rfl, (hS.sel [] rfl)⟩
 replace hm := bF hc hm
 refine w_skip ?_
 obtain ⟨ho9, hm⟩ := chkE hm
 obtain ⟨x10, hx10, hm⟩ := letE hm
 refine s_reg [] [2] [(2, [], vS x10)] [fun _ => 0 ≤ (w64 (i * 2)) ∧ (w64 (i * 2)) ≤ (w64 ((w64 (i * 2)) + 2)) ∧ (w64 ((w64 (i * 2)) + 2)) ≤ ln [48, 48, 48, 49, 48, 50, 48, 51, 48, 52, 48, 53, 48, 54, 48, 55, 48, 56, 48, 57, 49, 48, 49, 49, 49, 50, 49, 51, 49, 52, 49, 53, 49, 54, 49, 55, 49, 56, 49, 57, 50, 48, 50, 49, 50, 50, 50, 51, 50, 52, 50, 53, 50, 54, 50, 55, 50, 56, 50, 57, 51, 48, 51, 49, 51, 50, 51, 51, 51, 52, 51, 53, 51, 54, 51, 55, 51, 56, 51, 57, 52, 48, 52, 49, 52, 50, 52, 51, 52, 52, 52, 53, 52, 54, 52, 55, 52, 56, 52, 57, 53, 48, 53, 49, 53, 50, 53, 51, 53, 52, 53, 53, 53, 54, 53, 55, 53, 56, 53, 57, 54, 48, 54, 49, 54, 50, 54, 51, 54, 52, 54, 53, 54, 54, 54, 55, 54, 56, 54, 57, 55, 48, 55, 49, 55, 50, 55, 51, 55, 52, 55, 53, 55, 54, 55, 55, 55, 56, 55, 57, 56, 48, 56, 49, 56, 50, 56, 51, 56, 52, 56, 53, 56, 54, 56, 55, 56, 56, 56, 57, 57, 48, 57, 49, 57, 50, 57, 51, 57, 52, 57, 53, 57, 54, 57, 55, 57, 56, 57, 57]] H4 (by subst hx10; kernel_rfl) ⟨ho9, trivial⟩ fun _ _ H12 hb => ?_
 replace hS := hS.below hb
 clear H4 hb
 refine w_ret ?_
 obtain rfl := someE hm
 exact retR1 H12 rfl rfl ⟨_, rfl, rfl, (hS.sel [] rfl)⟩
theorem strconv_small_ok  (i : Int) (r : Str) (hm : strconv_small i = some r) : Ret Tryz.prog 66 ⟨[vI i]⟩ (vS r) := retP_of (Tryz.call66 _) (fun w h => strconv_small_w F0   i r hm w h)

theorem math_bits_Len64_w  (M : Av) (x_ : Int) (r : Int) (hm : math_bits_Len64 x_ = some r) (w : World) (hS : S0 M [] w) : Calls Tryz.prog 85 ⟨[.int .u64 x_]⟩ w (fun e w' => ∃ v, e = .returned v ∧ v = vI r ∧ SH M (fpl []) w [] w') := by
 rw [math_bits_Len64] at hm
 have hS0 : SH M (fpl []) w [] w := hS
 generalize hX : fpl [] = X at hS0 ⊢
 clear hS hX
 have hS := hS0
 clear hS0
 refine calls_entryP Tryz.func85 rfl Tryz.ntmps85 rfl fun _ H => ?_
 refine s_reg [] [0, 2] [(0, [], .int .u64 x_), (2, [], vI 0)] [] H (by kernel_rfl) trivial fun _ _ H2 hb => ?_
 replace hS := hS.below hb
 clear H hb
 obtain ⟨z3, hz, hm⟩ := bindE hm
 refine w_cut (fun a' w' => Fr 25 [(0, [], .int .u64 z3.1), (2, [], vI z3.2)] a' ∧ SH M X w [] w') ?_ ?_
 ·replace hm := hz
  refine s_reg [] [0, 2, 4] [(0, [], .int .u64 x_), (2, [], vI 0), (4, [], vB (decide (4294967296 ≤ x_)))] [] H2 (by kernel_rfl) trivial fun _ _ H5 hb => ?_
  replace hS := hS.below hb
  clear H2 hb
  refine w_if H5 rfl (fun hc => ?_) (fun hc => ?c10)
  case c10 =>
   replace hm := bF hc hm
   refine w_skip ?_
   obtain rfl := someE hm
   exact ⟨FrG.keep (ks := [0, 2]) H5 (by kernel_rfl), hS⟩
  replace hm := bT hc hm
  refine s_reg [] [0] [(0, [], .int .u64 (Int.fdiv x_ (2 ^ 32)))] [fun _ => (0 : Int) ≤ 32] H5 (by kernel_rfl) ⟨(by show (0 : Int) ≤ 32; decide), trivial⟩ fun _ _ H7 hb => ?_
  replace hS := hS.below hb
  clear H5 hb
  refine w_reg [] [0, 2] [(0, [], .int .u64 (Int.fdiv x_ (2 ^ 32))), (2, [], vI 32)] [] H7 (by kernel_rfl) trivial fun _ _ H9 hb => ?_
  replace hS := hS.below hb
  clear H7 hb
  obtain rfl := someE hm
  exact ⟨FrG.keep (ks := [0, 2]) H9 (by kernel_rfl), hS⟩
 ·rintro _ _ ⟨H, hS⟩
  obtain ⟨z11, hz, hm⟩ := bindE hm
  refine w_cut (fun a' w' => Fr 25 [(0, [], .int .u64 z11.1), (2, [], vI z11.2)] a' ∧ SH M X w [] w') ?_ ?_
  ·replace hm := hz
   refine s_reg [] [0, 2, 8] [(0, [], .int .u64 z3.1), (2, [], vI z3.2), (8, [], vB (decide (65536 ≤ z3.1)))] [] H (by kernel_rfl) trivial fun _ _ H13 hb => ?_
   replace hS := hS.below hb
   clear H hb
   refine w_if H13 rfl (fun hc => ?_) (fun hc => ?c18)
   case c18 =>
    replace hm := bF hc hm
    refine w_skip ?_
    obtain rfl := someE hm
    exact ⟨FrG.keep (ks := [0, 2]) H13 (by kernel_rfl), hS⟩
   replace hm := bT hc hm
   refine s_reg [] [0, 2] [(0, [], .int .u64 (Int.fdiv z3.1 (2 ^ 16))), (2, [], vI z3.2)] [fun _ => (0 : Int) ≤ 16] H13 (by kernel_rfl) ⟨(by show (0 : Int) ≤ 16; decide), trivial⟩ fun _ _ H15 hb => ?_
   replace hS := hS.below hb
   clear H13 hb
   refine w_reg [] [0, 2] [(0, [], .int .u64 (Int.fdiv z3.1 (2 ^ 16))), (2, [], vI (w64 (z3.2 + 16)))] [] H15 (by kernel_rfl) trivial fun _ _ H17 hb => ?_
   replace hS := hS.below hb
   clear H15 hb
   obtain rfl := someE hm
   exact ⟨FrG.keep (ks := [0, 2]) H17 (by kernel_rfl), hS⟩
  ·rintro _ _ ⟨H, hS⟩
   obtain ⟨z19, hz, hm⟩ := bindE hm
   refine w_cut (fun a' w' => Fr 25 [(0, [], .int .u64 z19.1), (2, [], vI z19.2)] a' ∧ SH M X w [] w') ?_ ?_
   ·replace hm := hz
    refine s_reg [] [0, 2, 14] [(0, [], .int .u64 z11.1), (2, [], vI z11.2), (14, [], vB (decide (256 ≤ z11.1)))] [] H (by kernel_rfl) trivial fun _ _ H21 hb => ?_
    replace hS := hS.below hb
    clear H hb
    refine w_if H21 rfl (fun hc => ?_) (fun hc => ?c26)
    case c26 =>
     replace hm := bF hc hm
     refine w_skip ?_
     obtain rfl := someE hm
     exact ⟨FrG.keep (ks := [0, 2]) H21 (by kernel_rfl), hS⟩
    replace hm := bT hc hm
    refine s_reg [] [0, 2] [(0, [], .int .u64 (Int.fdiv z11.1 (2 ^ 8))), (2, [], vI z11.2)] [fun _ => (0 : Int) ≤ 8] H21 (by kernel_rfl) ⟨(by show (0 : Int) ≤ 8; decide), trivial⟩ fun _ _ H23 hb => ?_
    replace hS := hS.below hb
    clear H21 hb
    refine w_reg [] [0, 2] [(0, [], .int .u64 (Int.fdiv z11.1 (2 ^ 8))), (2, [], vI (w64 (z11.2 + 8)))] [] H23 (by kernel_rfl) trivial fun _ _ H25 hb => ?_
    replace hS := hS.below hb
    clear H23 hb
    obtain rfl := someE hm
    exact ⟨FrG.keep (ks := [0, 2]) H25 (by kernel_rfl), hS⟩
   ·rintro _ _ ⟨H, hS⟩
    obtain ⟨ho27, hm⟩ := chkE hm
    obtain ⟨x28, hx28, hm⟩ := letE hm
    refine s_reg [] [2] [(2, [], vI (w64 (z19.2 + (w64 x28))))] [fun _ => 0 ≤ (wu8 z19.1) ∧ (wu8 z19.1) < ln [0, 1, 2, 2, 3, 3, 3, 3, 4, 4, 4, 4, 4, 4, 4, 4, 5, 5, 5, 5, 5, 5, 5, 5, 5, 5, 5, 5, 5, 5, 5, 5, 6, 6, 6, 6, 6, 6, 6, 6, 6, 6, 6, 6, 6, 6, 6, 6, 6, 6, 6, 6, 6, 6, 6, 6, 6, 6, 6, 6, 6, 6, 6, 6, 7, 7, 7, 7, 7, 7, 7, 7, 7, 7, 7, 7, 7, 7, 7, 7, 7, 7, 7, 7, 7, 7, 7, 7, 7, 7, 7, 7, 7, 7, 7, 7, 7, 7, 7, 7, 7, 7, 7, 7, 7, 7, 7, 7, 7, 7, 7, 7, 7, 7, 7, 7, 7, 7, 7, 7, 7, 7, 7, 7, 7, 7, 7, 7, 8, 8, 8, 8, 8, 8, 8, 8, 8, 8, 8, 8, 8, 8, 8, 8, 8, 8, 8, 8, 8, 8, 8, 8, 8, 8, 8, 8, 8, 8, 8, 8, 8, 8, 8, 8, 8, 8, 8, 8, 8, 8, 8, 8, 8, 8, 8, 8, 8, 8, 8, 8, 8, 8, 8, 8, 8, 8, 8, 8, 8, 8, 8, 8, 8, 8, 8, 8, 8, 8, 8, 8, 8, 8, 8, 8, 8, 8, 8, 8, 8, 8, 8, 8, 8, 8, 8, 8, 8, 8, 8, 8, 8, 8, 8, 8, 8, 8, 8, 8, 8, 8, 8, 8, 8, 8, 8, 8, 8, 8, 8, 8, 8, 8, 8, 8, 8, 8, 8, 8, 8, 8, 8, 8, 8, 8, 8, 8]] H (by subst hx28; kernel_rfl) ⟨ho27, trivial⟩ fun _ _ H30 hb => ?_
    replace hS := hS.below hb
    clear H hb
    refine w_ret ?_
    obtain rfl := someE hm
    exact retR1 H30 rfl rfl ⟨_, rfl, rfl, (hS.sel [] rfl)⟩
theorem math_bits_Len64_ok  (x_ : Int) (r : Int) (hm : math_bits_Len64 x_ = some r) : Ret Tryz.prog 85 ⟨[.int .u64 x_]⟩ (vI r) := retP_of (Tryz.call85 _) (fun w h => math_bits_Len64_w F0   x_ r hm w h)

theorem strconv_log10Pow2_w  (M : Av) (x_ : Int) (r : Int) (hm : strconv_log10Pow2 x_ = r) (w : World) (hS : S0 M [] w) : Calls Tryz.prog 84 ⟨[vI x_]⟩ w (fun e w' => ∃ v, e = .returned v ∧ v = vI r ∧ SH M (fpl []) w [] w') := by
 rw [strconv_log10Pow2] at hm
 have hS0 : SH M (fpl []) w [] w := hS
 generalize hX : fpl [] = X at hS0 ⊢
 clear hS hX
 have hS := hS0
 clear hS0
 refine calls_entryP Tryz.func84 rfl Tryz.ntmps84 rfl fun _ H => ?_
 refine s_reg [] [0] [(0, [], vI x_)] [] H (by kernel_rfl) trivial fun _ _ H2 hb => ?_
 replace hS := hS.below hb
 clear H hb
 refine s_reg [] [2] [(2, [], vI (Int.fdiv (w64 (x_ * 78913)) (2 ^ 18)))] [fun _ => (0 : Int) ≤ 18] H2 (by kernel_rfl) ⟨(by show (0 : Int) ≤ 18; decide), trivial⟩ fun _ _ H4 hb => ?_
 replace hS := hS.below hb
 clear H2 hb
 refine w_ret ?_
 subst hm
 exact retR1 H4 rfl rfl ⟨_, rfl, rfl, (hS.sel [] rfl)⟩
theorem strconv_log10Pow2_ok  (x_ : Int) : Ret Tryz.prog 84 ⟨[vI x_]⟩ (vI (strconv_log10Pow2 x_)) := retP_of (Tryz.call84 _) (fun w h => strconv_log10Pow2_w F0   x_ _ rfl w h)

theorem strconv_isPowerOfTwo_w  (M : Av) (x_ : Int) (r : Bool) (hm : strconv_isPowerOfTwo x_ = r) (w : World) (hS : S0 M [] w) : Calls Tryz.prog 87 ⟨[vI x_]⟩ w (fun e w' => ∃ v, e = .returned v ∧ v = vB r ∧ SH M (fpl []) w [] w') := by
 rw [strconv_isPowerOfTwo] at hm
 have hS0 : SH M (fpl []) w [] w := hS
 generalize hX : fpl [] = X at hS0 ⊢
 clear hS hX
 have hS := hS0
 clear hS0
 refine calls_entryP Tryz.func87 rfl Tryz.ntmps87 rfl fun _ H => ?_
 refine s_reg [] [0] [(0, [], vI x_)] [] H (by kernel_rfl) trivial fun _ _ H2 hb => ?_
 replace hS := hS.below hb
 clear H hb
 refine s_reg [] [2] [(2, [], vB ((ibit .and .i64 x_ (w64 (x_ - 1))) == 0))] [] H2 (by kernel_rfl) trivial fun _ _ H4 hb => ?_
 replace hS := hS.below hb
 clear H2 hb
 refine w_ret ?_
 subst hm
 exact retR1 H4 rfl rfl ⟨_, rfl, rfl, (hS.sel [] rfl)⟩
theorem strconv_isPowerOfTwo_ok  (x_ : Int) : Ret Tryz.prog 87 ⟨[vI x_]⟩ (vB (strconv_isPowerOfTwo x_)) := retP_of (Tryz.call87 _) (fun w h => strconv_isPowerOfTwo_w F0   x_ _ rfl w h)

abbrev gE5 : Ent := eI (tI .u8) gl_math_bits_deBruijn64tab (Gh.mk (some ⟨5, 0, none⟩) 64 fun _ _ => .nil)
theorem math_bits_TrailingZeros64_w  (M : Av) (x_ : Int) (r : Int) (hm : math_bits_TrailingZeros64 x_ = some r) (w : World) (hS : S0 M [gE5] w) : Calls Tryz.prog 109 ⟨[.int .u64 x_]⟩ w (fun e w' => ∃ v, e = .returned v ∧ v = vI r ∧ SH M (fpl [gE5]) w [] w') := by
 rw [math_bits_TrailingZeros64] at hm
 have hS0 : SH M (fpl [gE5]) w [gE5] w := hS
 generalize hX : fpl [gE5] = X at hS0 ⊢
 clear hS hX
 have hS := hS0
 clear hS0
 refine calls_entryP Tryz.func109 rfl Tryz.ntmps109 rfl fun _ H => ?_
 refine s_reg [] [0] [(0, [], .int .u64 x_)] [] H (by kernel_rfl) trivial fun _ _ H2 hb => ?_
 replace hS := hS.below hb
 clear H hb
 refine w_seq ?_
 refine s_reg [] [0, 4] [(0, [], .int .u64 x_), (4, [], vB (x_ == 0))] [] H2 (by kernel_rfl) trivial fun _ _ H4 hb => ?_
 replace hS := hS.below hb
 clear H2 hb
 refine w_if H4 rfl (fun hc => ?c12) (fun hc => ?_)
 case c12 =>
  replace hm := bT hc hm
  refine s_reg [] [2] [(2, [], vI 64)] [] H4 (by kernel_rfl) trivial fun _ _ H6 hb => ?_
  replace hS := hS.below hb
  clear H4 hb
  refine w_ret ?_
  obtain rfl := someE hm
  exact retR1 H6 rfl rfl ⟨_, rfl, rfl, (hS.sel [] rfl)⟩
 replace hm := bF hc hm
 refine w_skip ?_
 obtain ⟨x7, hx7, hm⟩ := letE hm
 obtain ⟨ho8, hm⟩ := chkE hm
 obtain ⟨x9, hx9, hm⟩ := letE hm
 refine s_reg [(vU (gi gl_math_bits_deBruijn64tab (Int.fdiv x7 (2 ^ 58))))] [2] [(2, [], vI (w64 x9))] [fun _ => (0 : Int) ≤ 58, fun _ => 0 ≤ (Int.fdiv x7 (2 ^ 58)) ∧ (Int.fdiv x7 (2 ^ 58)) < (64 : Int), fun wz => V.at1 ⟨5, 0 + ((Int.fdiv x7 (2 ^ 58))).toNat * 1, none⟩ (vU (gi gl_math_bits_deBruijn64tab (Int.fdiv x7 (2 ^ 58)))) wz] H4 (by subst hx7 hx9; kernel_rfl) ⟨(by show (0 : Int) ≤ 58; decide), ho8, ((hS.im 0 rfl).at1 ho8 0 rfl), trivial⟩ fun _ _ H11 hb => ?_
 replace hS := hS.below hb
 clear H4 hb
 refine w_ret ?_
 obtain rfl := someE hm
 exact retR1 H11 rfl rfl ⟨_, rfl, rfl, (hS.sel [] rfl)⟩
theorem math_bits_TrailingZeros64_ok  (x_ : Int) (r : Int) (hm : math_bits_TrailingZeros64 x_ = some r) (w : World) (hL : S0 F0 [gE5] w ∧ fpl [gE5] = []) : RetB Tryz.prog 109 ⟨[.int .u64 x_]⟩ (vI r) w := retB_of hL (Tryz.call109 _) (fun w' h => math_bits_TrailingZeros64_w F0   x_ r hm w' h)

theorem math_bits_TrailingZeros_w  (M : Av) (x_ : Int) (r : Int) (hm : math_bits_TrailingZeros x_ = some r) (w : World) (hS : S0 M [gE5] w) : Calls Tryz.prog 88 ⟨[.int .u64 x_]⟩ w (fun e w' => ∃ v, e = .returned v ∧ v = vI r ∧ SH M (fpl [gE5]) w [] w') := by
 rw [math_bits_TrailingZeros] at hm
 have hS0 : SH M (fpl [gE5]) w [gE5] w := hS
 generalize hX : fpl [gE5] = X at hS0 ⊢
 clear hS hX
 have hS := hS0
 clear hS0
 refine calls_entryP Tryz.func88 rfl Tryz.ntmps88 rfl fun _ H => ?_
 refine s_reg [] [0] [(0, [], .int .u64 x_)] [] H (by kernel_rfl) trivial fun _ _ H2 hb => ?_
 replace hS := hS.below hb
 clear H hb
 refine w_seq ?_
 refine w_if H2 rfl (fun hc => by cases hc) (fun _ => ?_)
 refine w_skip ?_
 obtain ⟨y3, hy3, hm⟩ := bindE hm
 refine s_reg [(vI y3)] [2] [(2, [], vI y3)] [rB 109 [.int .u64 x_] (vI y3)] H2 (by kernel_rfl) ⟨(math_bits_TrailingZeros64_ok _ _ hy3 _ (s0im s0nil (hS.im 0 rfl))), trivial⟩ fun _ _ H5 hb => ?_
 replace hS := hS.below hb
 clear H2 hb
 refine w_ret ?_
 obtain rfl := someE hm
 exact retR1 H5 rfl rfl ⟨_, rfl, rfl, (hS.sel [] rfl)⟩
theorem math_bits_TrailingZeros_ok  (x_ : Int) (r : Int) (hm : math_bits_TrailingZeros x_ = some r) (w : World) (hL : S0 F0 [gE5] w ∧ fpl [gE5] = []) : RetB Tryz.prog 88 ⟨[.int .u64 x_]⟩ (vI r) w := retB_of hL (Tryz.call88 _) (fun w' h => math_bits_TrailingZeros_w F0   x_ r hm w' h)

theorem strconv_formatBits_w {g_dst : Gh} (M : Av) (m : Nat) (dst : List Int) (u_ : Int) (base : Int) (neg : Bool) (append_ : Bool) (r : (List Int) × Str) (hm : strconv_formatBits m dst u_ base neg append_ = some r) (w : World) (hS : S0 M [eI (tI .u8) dst g_dst, gE5] w) : Calls Tryz.prog 69 ⟨[vL g_dst dst, .int .u64 u_, vI base, vB neg, vB append_]⟩ w (fun e w' => ∃ v, e = .returned v ∧ ∃ (g901 : Gh), v = vW [vL g901 r.1, vS r.2] ∧ SH M (fpl [eI (tI .u8) dst g_dst, gE5]) w [eO 5 (tI .u8) r.1 g901] w') := by
 rw [strconv_formatBits] at hm
 have hS0 : SH M (fpl [eI (tI .u8) dst g_dst, gE5]) w [eI (tI .u8) dst g_dst, gE5] w := hS
 generalize hX : fpl [eI (tI .u8) dst g_dst, gE5] = X at hS0 ⊢
 clear hS hX
 have hS := hS0
 clear hS0
 refine calls_entryP Tryz.func69 rfl Tryz.ntmps69 rfl fun _ H => ?_
 refine s_reg [] [0, 1, 2, 3, 4, 10, 11] [(0, [], vL g_dst dst), (1, [], .int .u64 u_), (2, [], vI base), (3, [], vB neg), (4, [], vB append_), (10, [], vO), (11, [], vN)] [] H (by kernel_rfl) trivial fun _ _ H2 hb => ?_
 replace hS := hS.below hb
 clear H hb
 refine w_seq ?_
 obtain ⟨x3, hx3, hm⟩ := letE hm
 refine s_reg [] [0, 1, 2, 3, 4, 10, 11, 28] [(0, [], vL g_dst dst), (1, [], .int .u64 u_), (2, [], vI base), (3, [], vB neg), (4, [], vB append_), (10, [], vO), (11, [], vN), (28, [], vB (cond x3 true (decide (36 < base))))] [] H2 (by subst hx3; kernel_rfl) trivial fun _ _ H5 hb => ?_
 replace hS := hS.below hb
 clear H2 hb
 refine w_if H5 rfl (fun hc => ?c124) (fun hc => ?_)
 case c124 =>
  replace hm := bT hc hm
  exact noneE hm
 replace hm := bF hc hm
 refine w_skip ?_
 refine w_seq ?_
 refine wl_start ?_
 have hd := hS.hand [] [0, 1] rfl rfl
 refine m_stp [12, 0, 1, 2, 3, 4, 10, 11] [(0, [], vL g_dst dst), (1, [], .int .u64 u_), (2, [], vI base), (3, [], vB neg), (4, [], vB append_), (10, [], vO), (11, [], vN)] H5 rfl rfl rfl rfl (o_allocR .u8 (List.replicate 65 (0 : Int)) (z := .agg ⟨(List.replicate 65 (0 : Int)).map (Value.int .u8)⟩) hd (by kernel_rfl) rfl) (fun _ => rfl) fun _ _ v H8 hq => ?_
 clear H5 hd
 obtain ⟨b6, rfl, hq⟩ := hq
 replace hq : SH _ _ _ [Ent.row .u8 b6 (List.replicate 65 (0 : Int)) (65 : Int)] _ := hq
 replace hS : SH M X w [Ent.row .u8 b6 (List.replicate 65 (0 : Int)) (65 : Int), eI (tI .u8) dst g_dst, gE5] _ := hS.join [] [0, 1] rfl rfl hq
 clear hq
 refine wl_end rfl ?_
 refine s_reg [] [0, 1, 2, 3, 4, 10, 11, 12, 13] [(0, [], vL g_dst dst), (1, [], .int .u64 u_), (2, [], vI base), (3, [], vB neg), (4, [], vB append_), (10, [], vO), (11, [], vN), (12, [], vP b6), (13, [], vI 65)] [] H8 (by kernel_rfl) trivial fun _ _ H10 hb => ?_
 replace hS := hS.below hb
 clear H8 hb
 obtain ⟨z11, hz, hm⟩ := bindE hm
 refine w_cut (fun a' w' => Fr 102 [(0, [], vL g_dst dst), (2, [], vI base), (3, [], vB neg), (4, [], vB append_), (10, [], vO), (11, [], vN), (12, [], vP b6), (13, [], vI 65), (1, [], .int .u64 z11)] a' ∧ SH M X w [Ent.row .u8 b6 (List.replicate 65 (0 : Int)) (65 : Int), eI (tI .u8) dst g_dst, gE5] w') ?_ ?_
 ·replace hm := hz
  refine s_reg [] [0, 1, 2, 3, 4, 10, 11, 12, 13, 30] [(0, [], vL g_dst dst), (1, [], .int .u64 u_), (2, [], vI base), (3, [], vB neg), (4, [], vB append_), (10, [], vO), (11, [], vN), (12, [], vP b6), (13, [], vI 65), (30, [], vB neg)] [] H10 (by kernel_rfl) trivial fun _ _ H13 hb => ?_
  replace hS := hS.below hb
  clear H10 hb
  refine w_if H13 rfl (fun hc => ?_) (fun hc => ?c16)
  case c16 =>
   replace hm := bF hc hm
   refine w_skip ?_
   obtain rfl := someE hm
   exact ⟨FrG.keep (ks := [0, 2, 3, 4, 10, 11, 12, 13, 1]) H13 (by kernel_rfl), hS⟩
  replace hm := bT hc hm
  refine w_reg [] [0, 1, 2, 3, 4, 10, 11, 12, 13] [(0, [], vL g_dst dst), (1, [], .int .u64 (wu64 (0 - u_))), (2, [], vI base), (3, [], vB neg), (4, [], vB append_), (10, [], vO), (11, [], vN), (12, [], vP b6), (13, [], vI 65)] [] H13 (by kernel_rfl) trivial fun _ _ H15 hb => ?_
  replace hS := hS.below hb
  clear H13 hb
  obtain rfl := someE hm
  exact ⟨FrG.keep (ks := [0, 2, 3, 4, 10, 11, 12, 13, 1]) H15 (by kernel_rfl), hS⟩
 ·rintro _ _ ⟨H, hS⟩
  obtain ⟨z17, hz, hm⟩ := bindE hm
  refine w_cut (fun a' w' => Fr 102 [(0, [], vL g_dst dst), (3, [], vB neg), (4, [], vB append_), (10, [], vO), (11, [], vN), (12, [], vP b6), (13, [], vI z17.1)] a' ∧ SH M X w [Ent.row .u8 b6 z17.2 (65 : Int), eI (tI .u8) dst g_dst, gE5] w') ?_ ?_
  ·replace hm := hz
   refine s_reg [(vB (strconv_isPowerOfTwo base))] [0, 1, 2, 3, 4, 10, 11, 12, 13, 34] [(0, [], vL g_dst dst), (1, [], .int .u64 z11), (2, [], vI base), (3, [], vB neg), (4, [], vB append_), (10, [], vO), (11, [], vN), (12, [], vP b6), (13, [], vI 65), (34, [], vB (strconv_isPowerOfTwo base))] [rB 87 [vI base] (vB (strconv_isPowerOfTwo base))] H (by kernel_rfl) ⟨((strconv_isPowerOfTwo_ok _).b), trivial⟩ fun _ _ H19 hb => ?_
   replace hS := hS.below hb
   clear H hb
   refine w_if H19 rfl (fun hc => ?_) (fun hc => ?c98)
   case c98 =>
    replace hm := bF hc hm
    refine s_reg [] [0, 1, 3, 4, 10, 11, 12, 13, 17] [(0, [], vL g_dst dst), (1, [], .int .u64 z11), (3, [], vB neg), (4, [], vB append_), (10, [], vO), (11, [], vN), (12, [], vP b6), (13, [], vI 65), (17, [], .int .u64 (wu64 base))] [] H19 (by kernel_rfl) trivial fun _ _ H62 hb => ?_
    replace hS := hS.below hb
    clear H19 hb
    obtain ⟨z63, hz, hm⟩ := bindE hm
    refine w_cut (fun a' w' => Fr 102 [(0, [], vL g_dst dst), (3, [], vB neg), (4, [], vB append_), (10, [], vO), (11, [], vN), (12, [], vP b6), (1, [], .int .u64 z63.1), (13, [], vI z63.2.1)] a' ∧ SH M X w [Ent.row .u8 b6 z63.2.2 (65 : Int), eI (tI .u8) dst g_dst, gE5] w') ?_ ?_
    ·replace hm := hz
     refine w_block ?_
     refine w_loop (fun kk a' w' => ∃ (v64 : Int) (v65 : Int) (v66 : List Int), strconv_formatBits_L2 m base kk v64 v65 v66 = some _ ∧ Fr 102 [(0, [], vL g_dst dst), (3, [], vB neg), (4, [], vB append_), (10, [], vO), (11, [], vN), (12, [], vP b6), (17, [], .int .u64 (wu64 base)), (1, [], .int .u64 v64), (13, [], vI v65)] a' ∧ SH M X w [Ent.row .u8 b6 v66 (65 : Int), eI (tI .u8) dst g_dst, gE5] w') ⟨_, z11, 65, List.replicate 65 (0 : Int), hm, FrG.keep (ks := [0, 3, 4, 10, 11, 12, 17, 1, 13]) H62 (by kernel_rfl), hS⟩ ?_
     clear hm H62 hS
     rintro kk _ _ ⟨v64, v65, v66, hm, H, hS⟩
     cases kk with
     | zero => exact noneE hm
     | succ kk =>
      rw [strconv_formatBits_L2] at hm
      refine w_seq ?_
      refine s_reg [] [0, 1, 3, 4, 10, 11, 12, 13, 17, 68] [(0, [], vL g_dst dst), (1, [], .int .u64 v64), (3, [], vB neg), (4, [], vB append_), (10, [], vO), (11, [], vN), (12, [], vP b6), (13, [], vI v65), (17, [], .int .u64 (wu64 base)), (68, [], vB (decide ((wu64 base) ≤ v64)))] [] H (by kernel_rfl) trivial fun _ _ H68 hb => ?_
      replace hS := hS.below hb
      clear H hb
      refine w_if H68 rfl (fun hc => ?_) (fun hc => ?c85)
      case c85 =>
       replace hm := bF hc hm
       refine w_exit rfl ?_
       obtain rfl := someE hm
       exact ⟨FrG.keep (ks := [0, 3, 4, 10, 11, 12, 1, 13]) H68 (by kernel_rfl), hS⟩
      replace hm := bT hc hm
      refine w_skip ?_
      refine w_block ?_
      refine s_reg [] [0, 1, 3, 4, 10, 11, 12, 13, 17] [(0, [], vL g_dst dst), (1, [], .int .u64 v64), (3, [], vB neg), (4, [], vB append_), (10, [], vO), (11, [], vN), (12, [], vP b6), (13, [], vI (w64 (v65 - 1))), (17, [], .int .u64 (wu64 base))] [] H68 (by kernel_rfl) trivial fun _ _ H70 hb => ?_
      replace hS := hS.below hb
      clear H68 hb
      obtain ⟨ho71, hm⟩ := chkE hm
      refine s_reg [] [0, 1, 3, 4, 10, 11, 12, 13, 17, 18] [(0, [], vL g_dst dst), (1, [], .int .u64 v64), (3, [], vB neg), (4, [], vB append_), (10, [], vO), (11, [], vN), (12, [], vP b6), (13, [], vI (w64 (v65 - 1))), (17, [], .int .u64 (wu64 base)), (18, [], .int .u64 (wu64 (Int.tdiv v64 (wu64 base))))] [fun _ => (wu64 base) ≠ 0] H70 (by kernel_rfl) ⟨ho71, trivial⟩ fun _ _ H73 hb => ?_
      replace hS := hS.below hb
      clear H70 hb
      refine w_seq ?_
      refine wl_start ?_
      obtain ⟨x74, hx74, hm⟩ := letE hm
      obtain ⟨ho75, hm⟩ := chkE hm
      obtain ⟨x76, hx76, hm⟩ := letE hm
      obtain ⟨ho77, hm⟩ := chkE hm
      refine wl_batch 0 8 [] [0, 3, 4, 10, 11, 12, 13, 17, 18, 80, 81] [(0, [], vL g_dst dst), (3, [], vB neg), (4, [], vB append_), (10, [], vO), (11, [], vN), (12, [], vP b6), (13, [], vI (w64 (v65 - 1))), (17, [], .int .u64 (wu64 base)), (18, [], .int .u64 (wu64 (Int.tdiv v64 (wu64 base)))), (80, [], vU x76), (81, [], .pointer (some ⟨b6, 0 + ((w64 (v65 - 1))).toNat * 1, none⟩))] [fun _ => 0 ≤ (wu64 (v64 - x74)) ∧ (wu64 (v64 - x74)) < ln [48, 49, 50, 51, 52, 53, 54, 55, 56, 57, 97, 98, 99, 100, 101, 102, 103, 104, 105, 106, 107, 108, 109, 110, 111, 112, 113, 114, 115, 116, 117, 118, 119, 120, 121, 122], fun _ => 0 ≤ (w64 (v65 - 1)) ∧ (w64 (v65 - 1)) < (65 : Int)] H73 (by decide) (by subst hx74 hx76; kernel_rfl) ⟨ho75, ho77, trivial⟩ fun _ _ H79 hb => ?_
      replace hS := hS.below hb
      clear H73 hb
      have hd := hS.hand [0] [1, 2] rfl rfl
      refine m_stp0 [0, 3, 4, 10, 11, 12, 13, 17, 18] [(0, [], vL g_dst dst), (3, [], vB neg), (4, [], vB append_), (10, [], vO), (11, [], vN), (12, [], vP b6), (13, [], vI (w64 (v65 - 1))), (17, [], .int .u64 (wu64 base)), (18, [], .int .u64 (wu64 (Int.tdiv v64 (wu64 base))))] H79 rfl rfl rfl (o_rstore H79 hd rfl rfl (by kernel_rfl) ho77) rfl fun _ _ H81 hq => ?_
      clear H79 hd
      obtain ⟨_, hq⟩ := hq
      obtain ⟨q82, hq82, hm⟩ := letE hm
      rw [← hq82] at hq
      replace hS : SH M X w [Ent.row .u8 b6 q82 (65 : Int), eI (tI .u8) dst g_dst, gE5] _ := hS.join [0] [1, 2] rfl rfl hq
      clear hq
      refine wl_end rfl ?_
      refine w_reg [] [0, 1, 3, 4, 10, 11, 12, 13, 17] [(0, [], vL g_dst dst), (1, [], .int .u64 (wu64 (Int.tdiv v64 (wu64 base)))), (3, [], vB neg), (4, [], vB append_), (10, [], vO), (11, [], vN), (12, [], vP b6), (13, [], vI (w64 (v65 - 1))), (17, [], .int .u64 (wu64 base))] [] H81 (by kernel_rfl) trivial fun _ _ H84 hb => ?_
      replace hS := hS.below hb
      clear H81 hb
      exact ⟨_, Nat.lt_succ_self _, wu64 (Int.tdiv v64 (wu64 base)), w64 (v65 - 1), q82, hm, FrG.keep (ks := [0, 3, 4, 10, 11, 12, 17, 1, 13]) H84 (by kernel_rfl), hS⟩
    ·rintro _ _ ⟨H, hS⟩
     refine s_reg [] [0, 1, 3, 4, 10, 11, 12, 13] [(0, [], vL g_dst dst), (1, [], .int .u64 z63.1), (3, [], vB neg), (4, [], vB append_), (10, [], vO), (11, [], vN), (12, [], vP b6), (13, [], vI (w64 (z63.2.1 - 1)))] [] H (by kernel_rfl) trivial fun _ _ H88 hb => ?_
     replace hS := hS.below hb
     clear H hb
     refine wl_start ?_
     obtain ⟨ho89, hm⟩ := chkE hm
     obtain ⟨x90, hx90, hm⟩ := letE hm
     obtain ⟨ho91, hm⟩ := chkE hm
     refine wl_batch 0 4 [] [0, 3, 4, 10, 11, 12, 13, 87, 88] [(0, [], vL g_dst dst), (3, [], vB neg), (4, [], vB append_), (10, [], vO), (11, [], vN), (12, [], vP b6), (13, [], vI (w64 (z63.2.1 - 1))), (87, [], vU x90), (88, [], .pointer (some ⟨b6, 0 + ((w64 (z63.2.1 - 1))).toNat * 1, none⟩))] [fun _ => 0 ≤ z63.1 ∧ z63.1 < ln [48, 49, 50, 51, 52, 53, 54, 55, 56, 57, 97, 98, 99, 100, 101, 102, 103, 104, 105, 106, 107, 108, 109, 110, 111, 112, 113, 114, 115, 116, 117, 118, 119, 120, 121, 122], fun _ => 0 ≤ (w64 (z63.2.1 - 1)) ∧ (w64 (z63.2.1 - 1)) < (65 : Int)] H88 (by decide) (by subst hx90; kernel_rfl) ⟨ho89, ho91, trivial⟩ fun _ _ H93 hb => ?_
     replace hS := hS.below hb
     clear H88 hb
     have hd := hS.hand [0] [1, 2] rfl rfl
     refine m_stp0 [0, 3, 4, 10, 11, 12, 13] [(0, [], vL g_dst dst), (3, [], vB neg), (4, [], vB append_), (10, [], vO), (11, [], vN), (12, [], vP b6), (13, [], vI (w64 (z63.2.1 - 1)))] H93 rfl rfl rfl (o_rstore H93 hd rfl rfl (by kernel_rfl) ho91) rfl fun _ _ H95 hq => ?_
     clear H93 hd
     obtain ⟨_, hq⟩ := hq
     obtain ⟨q96, hq96, hm⟩ := letE hm
     rw [← hq96] at hq
     replace hS : SH M X w [Ent.row .u8 b6 q96 (65 : Int), eI (tI .u8) dst g_dst, gE5] _ := hS.join [0] [1, 2] rfl rfl hq
     clear hq
     refine wl_end rfl ?_
     obtain rfl := someE hm
     exact ⟨FrG.keep (ks := [0, 3, 4, 10, 11, 12, 13]) H95 (by kernel_rfl), hS⟩
   replace hm := bT hc hm
   obtain ⟨y20, hy20, hm⟩ := bindE hm
   refine s_reg [(vI y20)] [0, 1, 2, 3, 4, 10, 11, 12, 13, 14] [(0, [], vL g_dst dst), (1, [], .int .u64 z11), (2, [], vI base), (3, [], vB neg), (4, [], vB append_), (10, [], vO), (11, [], vN), (12, [], vP b6), (13, [], vI 65), (14, [], .int .u64 (wu64 y20))] [rB 88 [.int .u64 (wu64 base)] (vI y20)] H19 (by kernel_rfl) ⟨(math_bits_TrailingZeros_ok _ _ hy20 _ (s0im s0nil (hS.im 2 rfl))), trivial⟩ fun _ _ H22 hb => ?_
   replace hS := hS.below hb
   clear H19 hb
   refine s_reg [] [0, 1, 2, 3, 4, 10, 11, 12, 13, 14, 15] [(0, [], vL g_dst dst), (1, [], .int .u64 z11), (2, [], vI base), (3, [], vB neg), (4, [], vB append_), (10, [], vO), (11, [], vN), (12, [], vP b6), (13, [], vI 65), (14, [], .int .u64 (wu64 y20)), (15, [], .int .u64 (wu64 base))] [] H22 (by kernel_rfl) trivial fun _ _ H24 hb => ?_
   replace hS := hS.below hb
   clear H22 hb
   refine s_reg [] [0, 1, 3, 4, 10, 11, 12, 13, 14, 15, 16] [(0, [], vL g_dst dst), (1, [], .int .u64 z11), (3, [], vB neg), (4, [], vB append_), (10, [], vO), (11, [], vN), (12, [], vP b6), (13, [], vI 65), (14, [], .int .u64 (wu64 y20)), (15, [], .int .u64 (wu64 base)), (16, [], .int .u64 (wu64 ((wu64 base) - 1)))] [] H24 (by kernel_rfl) trivial fun _ _ H26 hb => ?_
   replace hS := hS.below hb
   clear H24 hb
   obtain ⟨z27, hz, hm⟩ := bindE hm
   refine w_cut (fun a' w' => Fr 102 [(0, [], vL g_dst dst), (3, [], vB neg), (4, [], vB append_), (10, [], vO), (11, [], vN), (12, [], vP b6), (1, [], .int .u64 z27.1), (13, [], vI z27.2.1)] a' ∧ SH M X w [Ent.row .u8 b6 z27.2.2 (65 : Int), eI (tI .u8) dst g_dst, gE5] w') ?_ ?_
   ·replace hm := hz
    refine w_block ?_
    refine w_loop (fun kk a' w' => ∃ (v28 : Int) (v29 : Int) (v30 : List Int), strconv_formatBits_L1 m base y20 kk v28 v29 v30 = some _ ∧ Fr 102 [(0, [], vL g_dst dst), (3, [], vB neg), (4, [], vB append_), (10, [], vO), (11, [], vN), (12, [], vP b6), (14, [], .int .u64 (wu64 y20)), (15, [], .int .u64 (wu64 base)), (16, [], .int .u64 (wu64 ((wu64 base) - 1))), (1, [], .int .u64 v28), (13, [], vI v29)] a' ∧ SH M X w [Ent.row .u8 b6 v30 (65 : Int), eI (tI .u8) dst g_dst, gE5] w') ⟨_, z11, 65, List.replicate 65 (0 : Int), hm, FrG.keep (ks := [0, 3, 4, 10, 11, 12, 14, 15, 16, 1, 13]) H26 (by kernel_rfl), hS⟩ ?_
    clear hm H26 hS
    rintro kk _ _ ⟨v28, v29, v30, hm, H, hS⟩
    cases kk with
    | zero => exact noneE hm
    | succ kk =>
     rw [strconv_formatBits_L1] at hm
     refine w_seq ?_
     refine s_reg [] [0, 1, 3, 4, 10, 11, 12, 13, 14, 15, 16, 46] [(0, [], vL g_dst dst), (1, [], .int .u64 v28), (3, [], vB neg), (4, [], vB append_), (10, [], vO), (11, [], vN), (12, [], vP b6), (13, [], vI v29), (14, [], .int .u64 (wu64 y20)), (15, [], .int .u64 (wu64 base)), (16, [], .int .u64 (wu64 ((wu64 base) - 1))), (46, [], vB (decide ((wu64 base) ≤ v28)))] [] H (by kernel_rfl) trivial fun _ _ H32 hb => ?_
     replace hS := hS.below hb
     clear H hb
     refine w_if H32 rfl (fun hc => ?_) (fun hc => ?c48)
     case c48 =>
      replace hm := bF hc hm
      refine w_exit rfl ?_
      obtain rfl := someE hm
      exact ⟨FrG.keep (ks := [0, 3, 4, 10, 11, 12, 1, 13]) H32 (by kernel_rfl), hS⟩
     replace hm := bT hc hm
     refine w_skip ?_
     refine w_block ?_
     refine s_reg [] [0, 1, 3, 4, 10, 11, 12, 13, 14, 15, 16] [(0, [], vL g_dst dst), (1, [], .int .u64 v28), (3, [], vB neg), (4, [], vB append_), (10, [], vO), (11, [], vN), (12, [], vP b6), (13, [], vI (w64 (v29 - 1))), (14, [], .int .u64 (wu64 y20)), (15, [], .int .u64 (wu64 base)), (16, [], .int .u64 (wu64 ((wu64 base) - 1)))] [] H32 (by kernel_rfl) trivial fun _ _ H34 hb => ?_
     replace hS := hS.below hb
     clear H32 hb
     refine w_seq ?_
     refine wl_start ?_
     obtain ⟨x35, hx35, hm⟩ := letE hm
     obtain ⟨ho36, hm⟩ := chkE hm
     obtain ⟨x37, hx37, hm⟩ := letE hm
     obtain ⟨ho38, hm⟩ := chkE hm
     refine wl_batch 0 6 [] [0, 1, 3, 4, 10, 11, 12, 13, 14, 15, 16, 53, 54] [(0, [], vL g_dst dst), (1, [], .int .u64 v28), (3, [], vB neg), (4, [], vB append_), (10, [], vO), (11, [], vN), (12, [], vP b6), (13, [], vI (w64 (v29 - 1))), (14, [], .int .u64 (wu64 y20)), (15, [], .int .u64 (wu64 base)), (16, [], .int .u64 (wu64 ((wu64 base) - 1))), (53, [], vU x37), (54, [], .pointer (some ⟨b6, 0 + ((w64 (v29 - 1))).toNat * 1, none⟩))] [fun _ => 0 ≤ x35 ∧ x35 < ln [48, 49, 50, 51, 52, 53, 54, 55, 56, 57, 97, 98, 99, 100, 101, 102, 103, 104, 105, 106, 107, 108, 109, 110, 111, 112, 113, 114, 115, 116, 117, 118, 119, 120, 121, 122], fun _ => 0 ≤ (w64 (v29 - 1)) ∧ (w64 (v29 - 1)) < (65 : Int)] H34 (by decide) (by subst hx35 hx37; kernel_rfl) ⟨ho36, ho38, trivial⟩ fun _ _ H40 hb => ?_
     replace hS := hS.below hb
     clear H34 hb
     have hd := hS.hand [0] [1, 2] rfl rfl
     refine m_stp0 [0, 1, 3, 4, 10, 11, 12, 13, 14, 15, 16] [(0, [], vL g_dst dst), (1, [], .int .u64 v28), (3, [], vB neg), (4, [], vB append_), (10, [], vO), (11, [], vN), (12, [], vP b6), (13, [], vI (w64 (v29 - 1))), (14, [], .int .u64 (wu64 y20)), (15, [], .int .u64 (wu64 base)), (16, [], .int .u64 (wu64 ((wu64 base) - 1)))] H40 rfl rfl rfl (o_rstore H40 hd rfl rfl (by kernel_rfl) ho38) rfl fun _ _ H42 hq => ?_
     clear H40 hd
     obtain ⟨_, hq⟩ := hq
     obtain ⟨q43, hq43, hm⟩ := letE hm
     rw [← hq43] at hq
     replace hS : SH M X w [Ent.row .u8 b6 q43 (65 : Int), eI (tI .u8) dst g_dst, gE5] _ := hS.join [0] [1, 2] rfl rfl hq
     clear hq
     refine wl_end rfl ?_
     obtain ⟨ho44, hm⟩ := chkE hm
     obtain ⟨x45, hx45, hm⟩ := letE hm
     refine w_reg [] [0, 1, 3, 4, 10, 11, 12, 13, 14, 15, 16] [(0, [], vL g_dst dst), (1, [], .int .u64 x45), (3, [], vB neg), (4, [], vB append_), (10, [], vO), (11, [], vN), (12, [], vP b6), (13, [], vI (w64 (v29 - 1))), (14, [], .int .u64 (wu64 y20)), (15, [], .int .u64 (wu64 base)), (16, [], .int .u64 (wu64 ((wu64 base) - 1)))] [fun _ => 0 ≤ (wu64 y20)] H42 (by subst hx45; kernel_rfl) ⟨ho44, trivial⟩ fun _ _ H47 hb => ?_
     replace hS := hS.below hb
     clear H42 hb
     exact ⟨_, Nat.lt_succ_self _, x45, w64 (v29 - 1), q43, hm, FrG.keep (ks := [0, 3, 4, 10, 11, 12, 14, 15, 16, 1, 13]) H47 (by kernel_rfl), hS⟩
   ·rintro _ _ ⟨H, hS⟩
    refine s_reg [] [0, 1, 3, 4, 10, 11, 12, 13] [(0, [], vL g_dst dst), (1, [], .int .u64 z27.1), (3, [], vB neg), (4, [], vB append_), (10, [], vO), (11, [], vN), (12, [], vP b6), (13, [], vI (w64 (z27.2.1 - 1)))] [] H (by kernel_rfl) trivial fun _ _ H51 hb => ?_
    replace hS := hS.below hb
    clear H hb
    refine wl_start ?_
    obtain ⟨ho52, hm⟩ := chkE hm
    obtain ⟨x53, hx53, hm⟩ := letE hm
    obtain ⟨ho54, hm⟩ := chkE hm
    refine wl_batch 0 4 [] [0, 3, 4, 10, 11, 12, 13, 62, 63] [(0, [], vL g_dst dst), (3, [], vB neg), (4, [], vB append_), (10, [], vO), (11, [], vN), (12, [], vP b6), (13, [], vI (w64 (z27.2.1 - 1))), (62, [], vU x53), (63, [], .pointer (some ⟨b6, 0 + ((w64 (z27.2.1 - 1))).toNat * 1, none⟩))] [fun _ => 0 ≤ z27.1 ∧ z27.1 < ln [48, 49, 50, 51, 52, 53, 54, 55, 56, 57, 97, 98, 99, 100, 101, 102, 103, 104, 105, 106, 107, 108, 109, 110, 111, 112, 113, 114, 115, 116, 117, 118, 119, 120, 121, 122], fun _ => 0 ≤ (w64 (z27.2.1 - 1)) ∧ (w64 (z27.2.1 - 1)) < (65 : Int)] H51 (by decide) (by subst hx53; kernel_rfl) ⟨ho52, ho54, trivial⟩ fun _ _ H56 hb => ?_
    replace hS := hS.below hb
    clear H51 hb
    have hd := hS.hand [0] [1, 2] rfl rfl
    refine m_stp0 [0, 3, 4, 10, 11, 12, 13] [(0, [], vL g_dst dst), (3, [], vB neg), (4, [], vB append_), (10, [], vO), (11, [], vN), (12, [], vP b6), (13, [], vI (w64 (z27.2.1 - 1)))] H56 rfl rfl rfl (o_rstore H56 hd rfl rfl (by kernel_rfl) ho54) rfl fun _ _ H58 hq => ?_
    clear H56 hd
    obtain ⟨_, hq⟩ := hq
    obtain ⟨q59, hq59, hm⟩ := letE hm
    rw [← hq59] at hq
    replace hS : SH M X w [Ent.row .u8 b6 q59 (65 : Int), eI (tI .u8) dst g_dst, gE5] _ := hS.join [0] [1, 2] rfl rfl hq
    clear hq
    refine wl_end rfl ?_
    obtain rfl := someE hm
    exact ⟨FrG.keep (ks := [0, 3, 4, 10, 11, 12, 13]) H58 (by kernel_rfl), hS⟩
  ·rintro _ _ ⟨H, hS⟩
   obtain ⟨z99, hz, hm⟩ := bindE hm
   refine w_cut (fun a' w' => Fr 102 [(0, [], vL g_dst dst), (4, [], vB append_), (10, [], vO), (11, [], vN), (12, [], vP b6), (13, [], vI z99.1)] a' ∧ SH M X w [Ent.row .u8 b6 z99.2 (65 : Int), eI (tI .u8) dst g_dst, gE5] w') ?_ ?_
   ·replace hm := hz
    refine s_reg [] [0, 4, 10, 11, 12, 13, 89] [(0, [], vL g_dst dst), (4, [], vB append_), (10, [], vO), (11, [], vN), (12, [], vP b6), (13, [], vI z17.1), (89, [], vB neg)] [] H (by kernel_rfl) trivial fun _ _ H101 hb => ?_
    replace hS := hS.below hb
    clear H hb
    refine w_if H101 rfl (fun hc => ?_) (fun hc => ?c110)
    case c110 =>
     replace hm := bF hc hm
     refine w_skip ?_
     obtain rfl := someE hm
     exact ⟨FrG.keep (ks := [0, 4, 10, 11, 12, 13]) H101 (by kernel_rfl), hS⟩
    replace hm := bT hc hm
    refine s_reg [] [0, 4, 10, 11, 12, 13] [(0, [], vL g_dst dst), (4, [], vB append_), (10, [], vO), (11, [], vN), (12, [], vP b6), (13, [], vI (w64 (z17.1 - 1)))] [] H101 (by kernel_rfl) trivial fun _ _ H103 hb => ?_
    replace hS := hS.below hb
    clear H101 hb
    refine wl_start ?_
    obtain ⟨ho104, hm⟩ := chkE hm
    refine wl_batch 0 2 [] [0, 4, 10, 11, 12, 13, 93] [(0, [], vL g_dst dst), (4, [], vB append_), (10, [], vO), (11, [], vN), (12, [], vP b6), (13, [], vI (w64 (z17.1 - 1))), (93, [], .pointer (some ⟨b6, 0 + ((w64 (z17.1 - 1))).toNat * 1, none⟩))] [fun _ => 0 ≤ (w64 (z17.1 - 1)) ∧ (w64 (z17.1 - 1)) < (65 : Int)] H103 (by decide) (by kernel_rfl) ⟨ho104, trivial⟩ fun _ _ H106 hb => ?_
    replace hS := hS.below hb
    clear H103 hb
    have hd := hS.hand [0] [1, 2] rfl rfl
    refine m_stp0 [0, 4, 10, 11, 12, 13] [(0, [], vL g_dst dst), (4, [], vB append_), (10, [], vO), (11, [], vN), (12, [], vP b6), (13, [], vI (w64 (z17.1 - 1)))] H106 rfl rfl rfl (o_rstore H106 hd rfl rfl (by kernel_rfl) ho104) rfl fun _ _ H108 hq => ?_
    clear H106 hd
    obtain ⟨_, hq⟩ := hq
    obtain ⟨q109, hq109, hm⟩ := letE hm
    rw [← hq109] at hq
    replace hS : SH M X w [Ent.row .u8 b6 q109 (65 : Int), eI (tI .u8) dst g_dst, gE5] _ := hS.join [0] [1, 2] rfl rfl hq
    clear hq
    refine wl_end rfl ?_
    obtain rfl := someE hm
    exact ⟨FrG.keep (ks := [0, 4, 10, 11, 12, 13]) H108 (by kernel_rfl), hS⟩
   ·rintro _ _ ⟨H, hS⟩
    refine w_seq ?_
    refine s_reg [] [0, 10, 11, 12, 13, 94] [(0, [], vL g_dst dst), (10, [], vO), (11, [], vN), (12, [], vP b6), (13, [], vI z99.1), (94, [], vB append_)] [] H (by kernel_rfl) trivial fun _ _ H112 hb => ?_
    replace hS := hS.below hb
    clear H hb
    refine w_if H112 rfl (fun hc => ?c120) (fun hc => ?_)
    case c120 =>
     replace hm := bT hc hm
     exact noneE hm
    replace hm := bF hc hm
    refine w_skip ?_
    obtain ⟨ho116, hm⟩ := chkE hm
    refine s_reg [(vS (toB (z99.2.drop (z99.1).toNat)))] [10, 11] [(10, [], vO), (11, [], vS (toB (z99.2.drop (z99.1).toNat)))] [fun _ => 0 ≤ z99.1 ∧ z99.1 < (65 : Int), fun wz => ∀ w', Below wz.heap.size wz w' → (convert 63 9 (.slice (some ⟨b6, 0 + (z99.1).toNat * 1, none⟩) (65 - (z99.1).toNat) (65 - (z99.1).toNat))).run Tryz.prog w' = .ok (vS (toB (z99.2.drop (z99.1).toNat))) w'] H112 (by kernel_rfl) ⟨ho116, (conv_rowd (E := 5) (by kernel_rfl) (by kernel_rfl) (by kernel_rfl) (hS.rw 0 rfl).1 (hS.rw 0 rfl).2), trivial⟩ fun _ _ H118 hb => ?_
    replace hS := hS.below hb
    clear H112 hb
    replace hS : SH M X w [gE5] _ := hS.sel [2] rfl
    refine w_ret ?_
    obtain rfl := someE hm
    replace hS : SH M X w [eO 5 (tI .u8) ([] : List Int) (.nil), gE5] _ := hS.addNil 5 (tI .u8)
    exact retR2 H118 rfl rfl rfl ⟨_, rfl, Gh.nil, rfl, (hS.sel [0] rfl)⟩
theorem strconv_formatBits_ok {g_dst : Gh} (m : Nat) (dst : List Int) (u_ : Int) (base : Int) (neg : Bool) (append_ : Bool) (r : (List Int) × Str) (hm : strconv_formatBits m dst u_ base neg append_ = some r) (M : Av) (w : World) (hS : S0 M [eI (tI .u8) dst g_dst, gE5] w) : DoesX Tryz.prog 69 ⟨[vL g_dst dst, .int .u64 u_, vI base, vB neg, vB append_]⟩ w (fun v w' => ∃ (g901 : Gh), v = vW [vL g901 r.1, vS r.2] ∧ SH M (fpl [eI (tI .u8) dst g_dst, gE5]) w [eO 5 (tI .u8) r.1 g901] w') := ⟨Tryz.call69 _, strconv_formatBits_w M m   dst u_ base neg append_ r hm w hS⟩

theorem strconv_FormatInt_2_w  (M : Av) (m : Nat) (i : Int) (base : Int) (r : Str) (hm : strconv_FormatInt_2 m i base = some r) (w : World) (hS : S0 M [gE5] w) : Calls Tryz.prog 48 ⟨[vI i, vI base]⟩ w (fun e w' => ∃ v, e = .returned v ∧ v = vS r ∧ SH M (fpl [gE5]) w [] w') := by
 rw [strconv_FormatInt_2] at hm
 have hS0 : SH M (fpl [gE5]) w [gE5] w := hS
 generalize hX : fpl [gE5] = X at hS0 ⊢
 clear hS hX
 have hS := hS0
 clear hS0
 refine calls_entryP Tryz.func48 rfl Tryz.ntmps48 rfl fun _ H => ?_
 refine s_reg [] [0, 1] [(0, [], vI i), (1, [], vI base)] [] H (by kernel_rfl) trivial fun _ _ H2 hb => ?_
 replace hS := hS.below hb
 clear H hb
 refine w_seq ?_
 refine s_reg [] [0, 1, 11] [(0, [], vI i), (1, [], vI base), (11, [], vB (base == 10))] [] H2 (by kernel_rfl) trivial fun _ _ H4 hb => ?_
 replace hS := hS.below hb
 clear H2 hb
 refine w_if H4 rfl (fun hc => ?_) (fun hc => ?c36)
 case c36 =>
  replace hm := bF hc hm
  refine w_skip ?_
  refine w_seq ?_
  refine wl_start ?_
  refine wl_batch 0 5 [] [46, 47, 49] [(46, [], .int .u64 (wu64 i)), (47, [], vI base), (49, [], vB (decide (i < 0)))] [] H4 (by decide) (by kernel_rfl) trivial fun _ _ H25 hb => ?_
  replace hS := hS.below hb
  clear H4 hb
  replace hS : SH M X w [eO 5 (tI .u8) ([] : List Int) (.nil), gE5] _ := hS.addNil 5 (tI .u8)
  replace hS : SH M X w [eI (tI .u8) ([] : List Int) (.nil), gE5] _ := SH.frz1 (hS.sel [0, 1] rfl)
  obtain ⟨y27, hy27, hm⟩ := bindE hm
  have hd := hS.hand [0, 1] [0, 1] rfl rfl
  refine m_stp [50] [] H25 rfl rfl rfl rfl (o_callx H25 rfl rfl (strconv_formatBits_ok (g_dst := Gh.nil) m _ _ _ _ _ _ hy27 _ _ hd)) (fun _ => rfl) fun _ _ v H31 hq => ?_
  clear H25 hd
  obtain ⟨g28, rfl, hq⟩ := hq
  replace hS : SH M X w [eO 5 (tI .u8) y27.1 g28, eI (tI .u8) ([] : List Int) (.nil), gE5] _ := hS.join [0, 1] [0, 1] rfl rfl hq
  clear hq
  refine wl_batch 6 11 [] [9] [(9, [], vS y27.2)] [] H31 (by decide) (by kernel_rfl) trivial fun _ _ H33 hb => ?_
  replace hS := hS.below hb
  clear H31 hb
  refine wl_end rfl ?_
  replace hS : SH M X w [gE5] _ := hS.sel [2] rfl
  refine s_reg [] [4] [(4, [], vS y27.2)] [] H33 (by kernel_rfl) trivial fun _ _ H35 hb => ?_
  replace hS := hS.below hb
  clear H33 hb
  refine w_ret ?_
  obtain rfl := someE hm
  exact retR1 H35 rfl rfl ⟨_, rfl, rfl, (hS.sel [] rfl)⟩
 replace hm := bT hc hm
 refine w_seq ?_
 obtain ⟨x5, hx5, hm⟩ := letE hm
 refine s_reg [] [0, 17] [(0, [], vI i), (17, [], vB x5)] [] H4 (by subst hx5; kernel_rfl) trivial fun _ _ H7 hb => ?_
 replace hS := hS.below hb
 clear H4 hb
 refine w_if H7 rfl (fun hc => ?c23) (fun hc => ?_)
 case c23 =>
  replace hm := bT hc hm
  obtain ⟨y8, hy8, hm⟩ := bindE hm
  refine s_reg [(vS y8)] [4] [(4, [], vS y8)] [rB 66 [vI i] (vS y8)] H7 (by kernel_rfl) ⟨((strconv_small_ok _ _ hy8).b), trivial⟩ fun _ _ H10 hb => ?_
  replace hS := hS.below hb
  clear H7 hb
  refine w_ret ?_
  obtain rfl := someE hm
  exact retR1 H10 rfl rfl ⟨_, rfl, rfl, (hS.sel [] rfl)⟩
 replace hm := bF hc hm
 refine w_skip ?_
 refine w_seq ?_
 refine wl_start ?_
 have hd := hS.hand [] [0] rfl rfl
 refine m_stp [5, 0] [(0, [], vI i)] H7 rfl rfl rfl rfl (o_allocR .u8 [0, 0, 0, 0, 0, 0, 0, 0, 0, 0, 0, 0, 0, 0, 0, 0, 0, 0, 0, 0, 0, 0, 0, 0] (z := vG [vU 0, vU 0, vU 0, vU 0, vU 0, vU 0, vU 0, vU 0, vU 0, vU 0, vU 0, vU 0, vU 0, vU 0, vU 0, vU 0, vU 0, vU 0, vU 0, vU 0, vU 0, vU 0, vU 0, vU 0]) hd (by kernel_rfl) rfl) (fun _ => rfl) fun _ _ v H13 hq => ?_
 clear H7 hd
 obtain ⟨b11, rfl, hq⟩ := hq
 replace hS : SH M X w [Ent.row .u8 b11 [0, 0, 0, 0, 0, 0, 0, 0, 0, 0, 0, 0, 0, 0, 0, 0, 0, 0, 0, 0, 0, 0, 0, 0] (24 : Int), gE5] _ := hS.join [] [0] rfl rfl hq
 clear hq
 refine wl_end rfl ?_
 refine s_reg [] [0, 5, 6] [(0, [], vI i), (5, [], vP b11), (6, [], .int .u64 (wu64 i))] [] H13 (by kernel_rfl) trivial fun _ _ H15 hb => ?_
 replace hS := hS.below hb
 clear H13 hb
 obtain ⟨z16, hz, hm⟩ := bindE hm
 refine w_cut (fun a' w' => Fr 54 [(0, [], vI i), (5, [], vP b11), (6, [], .int .u64 z16)] a' ∧ SH M X w [Ent.row .u8 b11 [0, 0, 0, 0, 0, 0, 0, 0, 0, 0, 0, 0, 0, 0, 0, 0, 0, 0, 0, 0, 0, 0, 0, 0] (24 : Int), gE5] w') ?_ ?_
 ·replace hm := hz
  refine s_reg [] [0, 5, 6, 23] [(0, [], vI i), (5, [], vP b11), (6, [], .int .u64 (wu64 i)), (23, [], vB (decide (i < 0)))] [] H15 (by kernel_rfl) trivial fun _ _ H18 hb => ?_
  replace hS := hS.below hb
  clear H15 hb
  refine w_if H18 rfl (fun hc => ?_) (fun hc => ?c21)
  case c21 =>
   replace hm := bF hc hm
   refine w_skip ?_
   obtain rfl := someE hm
   exact ⟨FrG.keep (ks := [0, 5, 6]) H18 (by kernel_rfl), hS⟩
  replace hm := bT hc hm
  refine w_reg [] [0, 5, 6] [(0, [], vI i), (5, [], vP b11), (6, [], .int .u64 (wu64 (0 - (wu64 i))))] [] H18 (by kernel_rfl) trivial fun _ _ H20 hb => ?_
  replace hS := hS.below hb
  clear H18 hb
  obtain rfl := someE hm
  exact ⟨FrG.keep (ks := [0, 5, 6]) H20 (by kernel_rfl), hS⟩
 ·rintro _ _ ⟨H, hS⟩
  exact noneE hm
theorem strconv_FormatInt_2_ok  (m : Nat) (i : Int) (base : Int) (r : Str) (hm : strconv_FormatInt_2 m i base = some r) (w : World) (hL : S0 F0 [gE5] w ∧ fpl [gE5] = []) : RetB Tryz.prog 48 ⟨[vI i, vI base]⟩ (vS r) w := retB_of hL (Tryz.call48 _) (fun w' h => strconv_FormatInt_2_w F0 m   i base r hm w' h)

theorem strconv_FormatInt_w  (M : Av) (m : Nat) (i : Int) (r : Str) (hm : strconv_FormatInt m i = some r) (w : World) (hS : S0 M [gE5] w) : Calls Tryz.prog 30 ⟨[vI i, vI 16]⟩ w (fun e w' => ∃ v, e = .returned v ∧ v = vS r ∧ SH M (fpl [gE5]) w [] w') := by
 rw [strconv_FormatInt] at hm
 have hS0 : SH M (fpl [gE5]) w [gE5] w := hS
 generalize hX : fpl [gE5] = X at hS0 ⊢
 clear hS hX
 have hS := hS0
 clear hS0
 refine calls_entryP Tryz.func30 rfl Tryz.ntmps30 rfl fun _ H => ?_
 refine s_reg [] [0, 1] [(0, [], vI i), (1, [], vI 16)] [] H (by kernel_rfl) trivial fun _ _ H2 hb => ?_
 replace hS := hS.below hb
 clear H hb
 obtain ⟨y3, hy3, hm⟩ := bindE hm
 refine s_reg [(vS y3)] [4] [(4, [], vS y3)] [rB 48 [vI i, vI 16] (vS y3)] H2 (by kernel_rfl) ⟨(strconv_FormatInt_2_ok m _ _ _ hy3 _ (s0im s0nil (hS.im 0 rfl))), trivial⟩ fun _ _ H5 hb => ?_
 replace hS := hS.below hb
 clear H2 hb
 refine w_ret ?_
 obtain rfl := someE hm
 exact retR1 H5 rfl rfl ⟨_, rfl, rfl, (hS.sel [] rfl)⟩
theorem strconv_FormatInt_ok  (m : Nat) (i : Int) (r : Str) (hm : strconv_FormatInt m i = some r) (w : World) (hL : S0 F0 [gE5] w ∧ fpl [gE5] = []) : RetB Tryz.prog 30 ⟨[vI i, vI 16]⟩ (vS r) w := retB_of hL (Tryz.call30 _) (fun w' h => strconv_FormatInt_w F0 m   i r hm w' h)

theorem parseval_Shown_w  (M : Av) (m : Nat) (c_ : TColor) (r : Str) (hm : parseval_Shown m c_ = some r) (w : World) (hS : S0 M [Ent.tab 0 (Lib.pow10Tab.map fun z => Value.int .u64 z), gE5] w) : Calls Tryz.prog 13 ⟨[vG [vU c_.Red, vU c_.Green, vU c_.Blue, vU c_.Alpha]]⟩ w (fun e w' => ∃ v, e = .returned v ∧ v = vS r ∧ SH M (fpl [Ent.tab 0 (Lib.pow10Tab.map fun z => Value.int .u64 z), gE5]) w [] w') := by
 rw [parseval_Shown] at hm
 have hS0 : SH M (fpl [Ent.tab 0 (Lib.pow10Tab.map fun z => Value.int .u64 z), gE5]) w [Ent.tab 0 (Lib.pow10Tab.map fun z => Value.int .u64 z), gE5] w := hS
 generalize hX : fpl [Ent.tab 0 (Lib.pow10Tab.map fun z => Value.int .u64 z), gE5] = X at hS0 ⊢
 clear hS hX
 have hS := hS0
 clear hS0
 refine calls_entryP Tryz.func13 rfl Tryz.ntmps13 rfl fun _ H => ?_
 refine w_seq ?_
 refine wl_start ?_
 have hd := hS.hand [] [0, 1] rfl rfl
 refine m_stp [1] [] H rfl rfl rfl rfl (o_box [vU c_.Red, vU c_.Green, vU c_.Blue, vU c_.Alpha] H hd rfl rfl) (fun _ => rfl) fun _ _ v H3 hq => ?_
 clear H hd
 obtain ⟨b1, rfl, hq⟩ := hq
 replace hS : SH M X w [eB b1 [vU c_.Red, vU c_.Green, vU c_.Blue, vU c_.Alpha], Ent.tab 0 (Lib.pow10Tab.map fun z => Value.int .u64 z), gE5] _ := hS.join [] [0, 1] rfl rfl hq
 clear hq
 refine wl_batch 1 2 [] [1] [(1, [], vP b1)] [] H3 (by decide) (by kernel_rfl) trivial fun _ _ H5 hb => ?_
 replace hS := hS.below hb
 clear H3 hb
 refine wl_end rfl ?_
 refine w_seq ?_
 refine wl_start ?_
 refine wl_batch 0 9 [(vU c_.Red), (vU c_.Green), (vU c_.Blue), (vU c_.Alpha)] [1, 18] [(1, [], vP b1), (18, [], vG [vU c_.Red, vU c_.Green, vU c_.Blue, vU c_.Alpha])] [rA b1 0 (vU c_.Red), rA b1 1 (vU c_.Green), rA b1 2 (vU c_.Blue), rA b1 3 (vU c_.Alpha)] H5 (by decide) (by kernel_rfl) ⟨((hS.bk 0 rfl).at1 rfl), ((hS.bk 0 rfl).at1 rfl), ((hS.bk 0 rfl).at1 rfl), ((hS.bk 0 rfl).at1 rfl), trivial⟩ fun _ _ H7 hb => ?_
 replace hS := hS.below hb
 clear H5 hb
 have hd := hS.hand [] [0, 1, 2] rfl rfl
 refine m_stp [3, 1, 18] [(1, [], vP b1), (18, [], vG [vU c_.Red, vU c_.Green, vU c_.Blue, vU c_.Alpha])] H7 rfl rfl rfl rfl (o_alloc [vU 0, vU 0, vU 0, vU 0] (z := vG [vU 0, vU 0, vU 0, vU 0]) hd (by kernel_rfl) rfl) (fun _ => rfl) fun _ _ v H10 hq => ?_
 clear H7 hd
 obtain ⟨b8, rfl, hq⟩ := hq
 replace hS : SH M X w [eB b8 [vU 0, vU 0, vU 0, vU 0], eB b1 [vU c_.Red, vU c_.Green, vU c_.Blue, vU c_.Alpha], Ent.tab 0 (Lib.pow10Tab.map fun z => Value.int .u64 z), gE5] _ := hS.join [] [0, 1, 2] rfl rfl hq
 clear hq
 have hd := hS.hand [0] [1, 2, 3] rfl rfl
 refine m_stp0 [1, 3] [(1, [], vP b1), (3, [], vP b8)] H10 rfl rfl rfl (o_store [vU c_.Red, vU c_.Green, vU c_.Blue, vU c_.Alpha] H10 hd rfl rfl (by kernel_rfl) rfl rfl rfl) rfl fun _ _ H12 hq => ?_
 clear H10 hd
 obtain ⟨_, hq⟩ := hq
 replace hS : SH M X w [eB b8 [vU c_.Red, vU c_.Green, vU c_.Blue, vU c_.Alpha], eB b1 [vU c_.Red, vU c_.Green, vU c_.Blue, vU c_.Alpha], Ent.tab 0 (Lib.pow10Tab.map fun z => Value.int .u64 z), gE5] _ := hS.join [0] [1, 2, 3] rfl rfl hq
 clear hq
 refine wl_end rfl ?_
 obtain ⟨z13, hz, hm_z13⟩ := bindE hm
 refine w_cut (fun a' w' => ∃ s_z13 : Unit, z13 = Sum.inr s_z13 ∧ Fr 52 [(3, [], vP b8)] a' ∧ SH M X w [eB b8 [vU c_.Red, vU c_.Green, vU c_.Blue, vU c_.Alpha], eB b1 [vU c_.Red, vU c_.Green, vU c_.Blue, vU c_.Alpha], Ent.tab 0 (Lib.pow10Tab.map fun z => Value.int .u64 z), gE5] w') ?_ ?_
 ·replace hm := hz
  refine s_reg [(vU c_.Alpha)] [3, 21] [(3, [], vP b8), (21, [], vB (c_.Alpha == 255))] [rA b1 3 (vU c_.Alpha)] H12 (by kernel_rfl) ⟨((hS.bk 1 rfl).at1 rfl), trivial⟩ fun _ _ H15 hb => ?_
  replace hS := hS.below hb
  clear H12 hb
  refine w_if H15 rfl (fun hc => ?_) (fun hc => ?c58)
  case c58 =>
   replace hm := bF hc hm
   refine w_skip ?_
   obtain rfl := someE hm
   exact ⟨_, rfl, FrG.keep (ks := [3]) H15 (by kernel_rfl), hS⟩
  replace hm := bT hc hm
  refine s_reg [] [3, 4] [(3, [], vP b8), (4, [], vO)] [] H15 (by kernel_rfl) trivial fun _ _ H17 hb => ?_
  replace hS := hS.below hb
  clear H15 hb
  replace hS : SH M X w [Ent.row .u8 b8 [c_.Red, c_.Green, c_.Blue, c_.Alpha] (4 : Int), eB b1 [vU c_.Red, vU c_.Green, vU c_.Blue, vU c_.Alpha], Ent.tab 0 (Lib.pow10Tab.map fun z => Value.int .u64 z), gE5] _ := SH.toRow (q := [c_.Red, c_.Green, c_.Blue, c_.Alpha]) rfl (hS.sel [0, 1, 2, 3] rfl)
  obtain ⟨z18, hz, hm⟩ := bindE hm
  refine w_cut (fun a' w' => ∃ (g50 : Gh), Fr 52 [(4, [], vL g50 z18)] a' ∧ SH M X w [eO 9 tS z18 g50, Ent.row .u8 b8 [c_.Red, c_.Green, c_.Blue, c_.Alpha] (4 : Int), eB b1 [vU c_.Red, vU c_.Green, vU c_.Blue, vU c_.Alpha], Ent.tab 0 (Lib.pow10Tab.map fun z => Value.int .u64 z), gE5] w') ?_ ?_
  ·replace hm := hz
   refine s_reg [] [4, 22, 23, 24] [(4, [], vO), (22, [], .slice (some ⟨b8, 0, none⟩) 3 4), (23, [], vI (3 : Int)), (24, [], vI 0)] [fun _ => 0 ≤ (3 : Int) ∧ (3 : Int) ≤ (4 : Int)] H17 (by kernel_rfl) ⟨(⟨by decide, by decide⟩), trivial⟩ fun _ _ H20 hb => ?_
   replace hS := hS.below hb
   clear H17 hb
   refine w_block ?_
   replace hS : SH M X w [eO 9 tS ([] : List Str) (.nil), Ent.row .u8 b8 [c_.Red, c_.Green, c_.Blue, c_.Alpha] (4 : Int), eB b1 [vU c_.Red, vU c_.Green, vU c_.Blue, vU c_.Alpha], Ent.tab 0 (Lib.pow10Tab.map fun z => Value.int .u64 z), gE5] _ := hS.addNil 9 tS
   refine w_loop (fun kk a' w' => ∃ (v22 : List Str) (v24 : Int) (g23 : Gh), parseval_Shown_L1 m c_ kk v22 v24 = some _ ∧ Fr 52 [(22, [], .slice (some ⟨b8, 0, none⟩) 3 4), (23, [], vI (3 : Int)), (4, [], vL g23 v22), (24, [], vI v24)] a' ∧ SH M X w [eO 9 tS v22 g23, Ent.row .u8 b8 [c_.Red, c_.Green, c_.Blue, c_.Alpha] (4 : Int), eB b1 [vU c_.Red, vU c_.Green, vU c_.Blue, vU c_.Alpha], Ent.tab 0 (Lib.pow10Tab.map fun z => Value.int .u64 z), gE5] w') ⟨_, ([] : List Str), 0, Gh.nil, hm, FrG.keep (ks := [22, 23, 4, 24]) H20 (by kernel_rfl), hS⟩ ?_
   clear hm H20 hS
   rintro kk _ _ ⟨v22, v24, g23, hm, H, hS⟩
   cases kk with
   | zero => exact noneE hm
   | succ kk =>
    rw [parseval_Shown_L1] at hm
    refine s_reg [] [4, 22, 23, 24, 25] [(4, [], vL g23 v22), (22, [], .slice (some ⟨b8, 0, none⟩) 3 4), (23, [], vI (3 : Int)), (24, [], vI v24), (25, [], vB (decide (v24 < (3 : Int))))] [] H (by kernel_rfl) trivial fun _ _ H26 hb => ?_
    replace hS := hS.below hb
    clear H hb
    refine w_seq ?_
    refine w_if H26 rfl (fun hc => ?_) (fun hc => ?c48)
    case c48 =>
     replace hm := bF hc hm
     refine w_exit rfl ?_
     obtain rfl := someE hm
     exact ⟨g23, FrG.keep (ks := [4]) H26 (by kernel_rfl), hS⟩
    replace hm := bT hc hm
    refine w_skip ?_
    refine w_seq ?_
    refine w_block ?_
    obtain ⟨ho27, hm⟩ := chkE hm
    obtain ⟨ho28, hm⟩ := chkE hm
    obtain ⟨x29, hx29, hm⟩ := letE hm
    refine s_reg [(vU (gi [c_.Red, c_.Green, c_.Blue, c_.Alpha] v24))] [4, 6, 22, 23, 24] [(4, [], vL g23 v22), (6, [], vU x29), (22, [], .slice (some ⟨b8, 0, none⟩) 3 4), (23, [], vI (3 : Int)), (24, [], vI v24)] [fun _ => oka (some ⟨b8, 0, none⟩) ∧ 0 ≤ v24 ∧ v24 < (3 : Int), fun wz => V.at1 ⟨b8, 0 + (v24).toNat * 1, none⟩ (vU (gi [c_.Red, c_.Green, c_.Blue, c_.Alpha] v24)) wz] H26 (by subst hx29; kernel_rfl) ⟨(⟨rfl, ho27⟩), (Rw.ixn (hS.rw 1 rfl) ho28), trivial⟩ fun _ _ H31 hb => ?_
    replace hS := hS.below hb
    clear H26 hb
    refine wl_start ?_
    obtain ⟨y32, hy32, hm⟩ := bindE hm
    refine wl_batch 0 4 [(vS y32)] [22, 23, 24, 28, 31] [(22, [], .slice (some ⟨b8, 0, none⟩) 3 4), (23, [], vI (3 : Int)), (24, [], vI v24), (28, [], vL g23 v22), (31, [], vS y32)] [rB 28 [vI (w64 x29)] (vS y32)] H31 (by decide) (by kernel_rfl) ⟨(x_Itoa_ok _ _ hy32 _ (s0tab s0nil (hS.at 3 rfl))), trivial⟩ fun _ _ H34 hb => ?_
    replace hS := hS.below hb
    clear H31 hb
    have hd := hS.hand [] [0, 1, 2, 3, 4] rfl rfl
    refine m_stp [32, 22, 23, 24, 28] [(22, [], .slice (some ⟨b8, 0, none⟩) 3 4), (23, [], vI (3 : Int)), (24, [], vI v24), (28, [], vL g23 v22)] H34 rfl rfl rfl rfl (o_lit (T := tS) (E := 9) (zv := vN) [vS y32] ([y32] : List Str) [gL []] _ H34 hd rfl (by kernel_rfl) (by kernel_rfl) (by kernel_rfl) (by kernel_rfl) (by kernel_rfl) (by kernel_rfl) (by kernel_rfl) rfl (InnL.cons trivial InnL.nil)) (fun _ => rfl) fun _ _ v H38 hq => ?_
    clear H34 hd
    obtain ⟨g35, rfl, hq⟩ := hq
    replace hS : SH M X w [eO 9 tS ([y32] : List Str) g35, eO 9 tS v22 g23, Ent.row .u8 b8 [c_.Red, c_.Green, c_.Blue, c_.Alpha] (4 : Int), eB b1 [vU c_.Red, vU c_.Green, vU c_.Blue, vU c_.Alpha], Ent.tab 0 (Lib.pow10Tab.map fun z => Value.int .u64 z), gE5] _ := hS.join [] [0, 1, 2, 3, 4] rfl rfl hq
    clear hq
    obtain ⟨ho39, hm⟩ := chkE hm
    obtain ⟨q40, hq40, hm⟩ := letE hm
    have hd := hS.hand [1, 0] [2, 3, 4, 5] rfl rfl
    refine m_stp [33, 22, 23, 24] [(22, [], .slice (some ⟨b8, 0, none⟩) 3 4), (23, [], vI (3 : Int)), (24, [], vI v24)] H38 rfl rfl rfl rfl (o_app2 (T := tS) (zv := vN) (g1 := g23) (g2 := g35) (l1 := v22) (l2 := ([y32] : List Str)) q40 hq40.symm H38 hd rfl rfl rfl rfl rfl rfl rfl (by kernel_rfl) (by kernel_rfl) rfl rfl ho39) (fun _ => rfl) fun _ _ v H42 hq => ?_
    clear H38 hd
    obtain ⟨g43, rfl, hq⟩ := hq
    replace hS : SH M X w [eO 9 tS q40 g43, eO 9 tS ([y32] : List Str) g35, Ent.row .u8 b8 [c_.Red, c_.Green, c_.Blue, c_.Alpha] (4 : Int), eB b1 [vU c_.Red, vU c_.Green, vU c_.Blue, vU c_.Alpha], Ent.tab 0 (Lib.pow10Tab.map fun z => Value.int .u64 z), gE5] _ := hS.join [1, 0] [2, 3, 4, 5] rfl rfl hq
    clear hq
    refine wl_batch 6 7 [] [4, 22, 23, 24] [(4, [], vL g43 q40), (22, [], .slice (some ⟨b8, 0, none⟩) 3 4), (23, [], vI (3 : Int)), (24, [], vI v24)] [] H42 (by decide) (by kernel_rfl) trivial fun _ _ H45 hb => ?_
    replace hS := hS.below hb
    clear H42 hb
    refine wl_end rfl ?_
    replace hS : SH M X w [eO 9 tS q40 g43, Ent.row .u8 b8 [c_.Red, c_.Green, c_.Blue, c_.Alpha] (4 : Int), eB b1 [vU c_.Red, vU c_.Green, vU c_.Blue, vU c_.Alpha], Ent.tab 0 (Lib.pow10Tab.map fun z => Value.int .u64 z), gE5] _ := hS.sel [0, 2, 3, 4, 5] rfl
    refine w_reg [] [4, 22, 23, 24] [(4, [], vL g43 q40), (22, [], .slice (some ⟨b8, 0, none⟩) 3 4), (23, [], vI (3 : Int)), (24, [], vI (w64 (v24 + 1)))] [] H45 (by kernel_rfl) trivial fun _ _ H47 hb => ?_
    replace hS := hS.below hb
    clear H45 hb
    exact ⟨_, Nat.lt_succ_self _, q40, w64 (v24 + 1), g43, hm, FrG.keep (ks := [22, 23, 4, 24]) H47 (by kernel_rfl), hS⟩
  ·rintro _ _ ⟨g50, H, hS⟩
   obtain ⟨y52, hy52, hm⟩ := bindE hm
   obtain ⟨ho53, hm⟩ := chkE hm
   obtain ⟨ho54, hm⟩ := chkE hm
   refine s_reg [(vS y52)] [2] [(2, [], vS (([114, 103, 98, 40] ++ y52) ++ [41]))] [rB 29 [vL g50 z18, vS [44, 32]] (vS y52), fun _ => ln [114, 103, 98, 40] + ln y52 ≤ 9223372036854775807, fun _ => ln ([114, 103, 98, 40] ++ y52) + ln [41] ≤ 9223372036854775807] H (by kernel_rfl) ⟨(strings_Join_ok (g_elems := g50) m _ _ _ hy52 _ (s0im s0nil (hS.osl 0 rfl))), ho53, ho54, trivial⟩ fun _ _ H56 hb => ?_
   replace hS := hS.below hb
   clear H hb
   replace hS : SH M X w [Ent.row .u8 b8 [c_.Red, c_.Green, c_.Blue, c_.Alpha] (4 : Int), eB b1 [vU c_.Red, vU c_.Green, vU c_.Blue, vU c_.Alpha], Ent.tab 0 (Lib.pow10Tab.map fun z => Value.int .u64 z), gE5] _ := hS.sel [1, 2, 3, 4] rfl
   refine w_ret ?_
   obtain rfl := someE hm
   have hm := hm_z13
   obtain rfl := someE hm
   exact retR1 H56 rfl rfl ⟨_, rfl, rfl, (hS.sel [] rfl)⟩
 ·rintro _ _ ⟨s_z13, hz, H, hS⟩
  subst hz
  replace hm := sumR hm_z13
  replace hS : SH M X w [eB b8 [vU c_.Red, vU c_.Green, vU c_.Blue, vU c_.Alpha], Ent.tab 0 (Lib.pow10Tab.map fun z => Value.int .u64 z), gE5] _ := hS.sel [0, 2, 3] rfl
  refine s_reg [] [3, 7] [(3, [], vP b8), (7, [], vS [35])] [] H (by kernel_rfl) trivial fun _ _ H60 hb => ?_
  replace hS := hS.below hb
  clear H hb
  obtain ⟨z61, hz, hm⟩ := bindE hm
  refine w_cut (fun a' w' => Fr 52 [(7, [], vS z61)] a' ∧ SH M X w [eB b8 [vU c_.Red, vU c_.Green, vU c_.Blue, vU c_.Alpha], Ent.tab 0 (Lib.pow10Tab.map fun z => Value.int .u64 z), gE5] w') ?_ ?_
  ·replace hm := hz
   refine s_reg [(vG [vU c_.Red, vU c_.Green, vU c_.Blue, vU c_.Alpha])] [7, 39, 40] [(7, [], vS [35]), (39, [], vG [vU c_.Red, vU c_.Green, vU c_.Blue, vU c_.Alpha]), (40, [], vI 0)] [rN b8 0 [vU c_.Red, vU c_.Green, vU c_.Blue, vU c_.Alpha]] H60 (by kernel_rfl) ⟨((hS.bk 0 rfl).atD rfl), trivial⟩ fun _ _ H63 hb => ?_
   replace hS := hS.below hb
   clear H60 hb
   refine w_block ?_
   refine w_loop (fun kk a' w' => ∃ (v64 : Str) (v65 : Int), parseval_Shown_L2 m c_ kk v64 v65 = some _ ∧ Fr 52 [(39, [], vG [vU c_.Red, vU c_.Green, vU c_.Blue, vU c_.Alpha]), (7, [], vS v64), (40, [], vI v65)] a' ∧ SH M X w [eB b8 [vU c_.Red, vU c_.Green, vU c_.Blue, vU c_.Alpha], Ent.tab 0 (Lib.pow10Tab.map fun z => Value.int .u64 z), gE5] w') ⟨_, [35], 0, hm, FrG.keep (ks := [39, 7, 40]) H63 (by kernel_rfl), hS⟩ ?_
   clear hm H63 hS
   rintro kk _ _ ⟨v64, v65, hm, H, hS⟩
   cases kk with
   | zero => exact noneE hm
   | succ kk =>
    rw [parseval_Shown_L2] at hm
    refine s_reg [] [7, 39, 40, 41] [(7, [], vS v64), (39, [], vG [vU c_.Red, vU c_.Green, vU c_.Blue, vU c_.Alpha]), (40, [], vI v65), (41, [], vB (decide (v65 < 4)))] [] H (by kernel_rfl) trivial fun _ _ H67 hb => ?_
    replace hS := hS.below hb
    clear H hb
    refine w_seq ?_
    refine w_if H67 rfl (fun hc => ?_) (fun hc => ?c79)
    case c79 =>
     replace hm := bF hc hm
     refine w_exit rfl ?_
     obtain rfl := someE hm
     exact ⟨FrG.keep (ks := [7]) H67 (by kernel_rfl), hS⟩
    replace hm := bT hc hm
    refine w_skip ?_
    refine w_seq ?_
    refine w_block ?_
    obtain ⟨ho68, hm⟩ := chkE hm
    obtain ⟨x69, hx69, hm⟩ := letE hm
    refine s_reg [] [7, 9, 39, 40] [(7, [], vS v64), (9, [], vU x69), (39, [], vG [vU c_.Red, vU c_.Green, vU c_.Blue, vU c_.Alpha]), (40, [], vI v65)] [fun _ => 0 ≤ v65 ∧ v65 < (4 : Int)] H67 (by subst hx69; kernel_rfl) ⟨ho68, trivial⟩ fun _ _ H71 hb => ?_
    replace hS := hS.below hb
    clear H67 hb
    obtain ⟨y72, hy72, hm⟩ := bindE hm
    obtain ⟨ho73, hm⟩ := chkE hm
    obtain ⟨ho74, hm⟩ := chkE hm
    refine w_reg [(vS y72)] [7, 39, 40] [(7, [], vS (v64 ++ (sub y72 1 (ln y72)))), (39, [], vG [vU c_.Red, vU c_.Green, vU c_.Blue, vU c_.Alpha]), (40, [], vI v65)] [rB 30 [vI (w64 (256 + (w64 x69))), vI 16] (vS y72), fun _ => 0 ≤ (1 : Int) ∧ (1 : Int) ≤ ln y72, fun _ => ln v64 + ln (sub y72 1 (ln y72)) ≤ 9223372036854775807] H71 (by kernel_rfl) ⟨(strconv_FormatInt_ok m _ _ hy72 _ (s0im s0nil (hS.im 2 rfl))), ho73, ho74, trivial⟩ fun _ _ H76 hb => ?_
    replace hS := hS.below hb
    clear H71 hb
    refine w_reg [] [7, 39, 40] [(7, [], vS (v64 ++ (sub y72 1 (ln y72)))), (39, [], vG [vU c_.Red, vU c_.Green, vU c_.Blue, vU c_.Alpha]), (40, [], vI (w64 (v65 + 1)))] [] H76 (by kernel_rfl) trivial fun _ _ H78 hb => ?_
    replace hS := hS.below hb
    clear H76 hb
    exact ⟨_, Nat.lt_succ_self _, v64 ++ (sub y72 1 (ln y72)), w64 (v65 + 1), hm, FrG.keep (ks := [39, 7, 40]) H78 (by kernel_rfl), hS⟩
  ·rintro _ _ ⟨H, hS⟩
   replace hS : SH M X w [Ent.tab 0 (Lib.pow10Tab.map fun z => Value.int .u64 z), gE5] _ := hS.sel [1, 2] rfl
   refine s_reg [] [2] [(2, [], vS z61)] [] H (by kernel_rfl) trivial fun _ _ H82 hb => ?_
   replace hS := hS.below hb
   clear H hb
   refine w_ret ?_
   obtain rfl := someE hm
   exact retR1 H82 rfl rfl ⟨_, rfl, rfl, (hS.sel [] rfl)⟩
theorem parseval_Shown_ok  (m : Nat) (c_ : TColor) (r : Str) (hm : parseval_Shown m c_ = some r) (w : World) (hL : S0 F0 [Ent.tab 0 (Lib.pow10Tab.map fun z => Value.int .u64 z), gE5] w ∧ fpl [Ent.tab 0 (Lib.pow10Tab.map fun z => Value.int .u64 z), gE5] = []) : RetB Tryz.prog 13 ⟨[vG [vU c_.Red, vU c_.Green, vU c_.Blue, vU c_.Alpha]]⟩ (vS r) w := retB_of hL (Tryz.call13 _) (fun w' h => parseval_Shown_w F0 m   c_ r hm w' h)

theorem law26_alive_w  (M : Av) (m : Nat)  (r : Bool) (hm : law26_alive m = some r) (w : World) (hS : S0 M [gE1, Ent.tab 0 (Lib.pow10Tab.map fun z => Value.int .u64 z), gE5] w) : Calls Tryz.prog 8 ⟨[]⟩ w (fun e w' => ∃ v, e = .returned v ∧ v = vB r ∧ SH M (fpl [gE1, Ent.tab 0 (Lib.pow10Tab.map fun z => Value.int .u64 z), gE5]) w [] w') := by
 rw [law26_alive] at hm
 have hS0 : SH M (fpl [gE1, Ent.tab 0 (Lib.pow10Tab.map fun z => Value.int .u64 z), gE5]) w [gE1, Ent.tab 0 (Lib.pow10Tab.map fun z => Value.int .u64 z), gE5] w := hS
 generalize hX : fpl [gE1, Ent.tab 0 (Lib.pow10Tab.map fun z => Value.int .u64 z), gE5] = X at hS0 ⊢
 clear hS hX
 have hS := hS0
 clear hS0
 refine calls_entryP Tryz.func8 rfl Tryz.ntmps8 rfl fun _ H => ?_
 refine s_reg [] [] [] [] H (by kernel_rfl) trivial fun _ _ H2 hb => ?_
 replace hS := hS.below hb
 clear H hb
 obtain ⟨y3, hy3, hm⟩ := bindE hm
 obtain ⟨y4, hy4, hm⟩ := bindE hm
 obtain ⟨y5, hy5, hm⟩ := bindE hm
 refine s_reg [(vB y3), (vB y4), (vB y5)] [1] [(1, [], vB (cond (cond y3 y4 false) y5 false))] [rB 16 [vS [82, 69, 68], vG [vU 255, vU 0, vU 0, vU 255]] (vB y3), fun wz => (y3 = true ∧ True → RetB Tryz.prog 16 ⟨[vS [35, 48, 102, 48, 56], vG [vU 0, vU 255, vU 0, vU 136]]⟩ (vB y4) wz), fun wz => ((cond y3 y4 false) = true ∧ True → RetB Tryz.prog 16 ⟨[vS [114, 103, 98, 40, 49, 46, 57, 32, 45, 50, 32, 51, 48, 48, 32, 47, 32, 48, 46, 53, 41], vG [vU 1, vU 0, vU 255, vU 127]]⟩ (vB y5) wz)] H2 (by kernel_rfl) ⟨(law26_color_ok m _ _ _ hy3 _ (s0im s0nil (hS.im 0 rfl))), fun hg => law26_color_ok m _ _ _ (bT (hg.1) hy4) _ (s0im s0nil (hS.im 0 rfl)), fun hg => law26_color_ok m _ _ _ (bT (hg.1) hy5) _ (s0im s0nil (hS.im 0 rfl)), trivial⟩ fun _ _ H7 hb => ?_
 replace hS := hS.below hb
 clear H2 hb
 obtain ⟨y8, hy8, hm⟩ := bindE hm
 obtain ⟨y9, hy9, hm⟩ := bindE hm
 obtain ⟨y10, hy10, hm⟩ := bindE hm
 obtain ⟨y11, hy11, hm⟩ := bindE hm
 obtain ⟨x12, hx12, hm⟩ := letE hm
 obtain ⟨y13, hy13, hm⟩ := bindE hm
 obtain ⟨y14, hy14, hm⟩ := bindE hm
 refine s_reg [(vB y8), (vB y9), (vB y10), (vB y11), (vB y13), (vB y14)] [1, 2] [(1, [], vB (cond (cond y3 y4 false) y5 false)), (2, [], vB (cond (cond x12 y13 false) y14 false))] [rB 18 [vI 6, vS [48], vG [vU 2, vN, vI 0, vU 0, vU 0, vU 0, vU 0]] (vB y8), fun wz => (y8 = true ∧ True → RetB Tryz.prog 18 ⟨[vI 6, vS [49, 46, 53, 101, 109], vG [vU 3, vN, vI 1500, vU 0, vU 0, vU 0, vU 0]]⟩ (vB y9) wz), fun wz => ((cond y8 y9 false) = true ∧ True → RetB Tryz.prog 18 ⟨[vI 6, vS [97, 117, 116, 111], vG [vU 1, vS [97, 117, 116, 111], vI 0, vU 0, vU 0, vU 0, vU 0]]⟩ (vB y10) wz), fun wz => ((cond (cond y8 y9 false) y10 false) = true ∧ True → RetB Tryz.prog 18 ⟨[vI 13, vS [48], vG [vU 5, vN, vI 0, vU 0, vU 0, vU 0, vU 0]]⟩ (vB y11) wz), fun wz => (x12 = true ∧ True → RetB Tryz.prog 18 ⟨[vI 16, vS [50], vG [vU 6, vN, vI 2, vU 0, vU 0, vU 0, vU 0]]⟩ (vB y13) wz), fun wz => ((cond x12 y13 false) = true ∧ True → RetB Tryz.prog 20 ⟨[vI 16, vS [50, 46, 48]]⟩ (vB y14) wz)] H7 (by subst hx12; kernel_rfl) ⟨(law26_reads_ok 300 _ _ _ _ hy8 _ (s0im s0nil (hS.im 0 rfl))), fun hg => law26_reads_ok 300 _ _ _ _ (bT (hg.1) hy9) _ (s0im s0nil (hS.im 0 rfl)), fun hg => law26_reads_ok 300 _ _ _ _ (bT (hg.1) hy10) _ (s0im s0nil (hS.im 0 rfl)), fun hg => law26_reads_ok 300 _ _ _ _ (bT (hg.1) hy11) _ (s0im s0nil (hS.im 0 rfl)), fun hg => law26_reads_ok 300 _ _ _ _ (bT (hg.1) hy13) _ (s0im s0nil (hS.im 0 rfl)), fun hg => law26_none_ok m _ _ _ (bT (hg.1) hy14) _ (s0im s0nil (hS.im 0 rfl)), trivial⟩ fun _ _ H16 hb => ?_
 replace hS := hS.below hb
 clear H7 hb
 obtain ⟨x17, hx17, hm⟩ := letE hm
 obtain ⟨y18, hy18, hm⟩ := bindE hm
 obtain ⟨x19, hx19, hm⟩ := letE hm
 obtain ⟨y20, hy20, hm⟩ := bindE hm
 obtain ⟨x21, hx21, hm⟩ := letE hm
 refine s_reg [(vS y18), (vS y20)] [0] [(0, [], vB x21)] [fun wz => (x17 = true ∧ True → RetB Tryz.prog 13 ⟨[vG [vU 0, vU 0, vU 255, vU 255]]⟩ (vS y18) wz), fun wz => (x19 = true ∧ True → RetB Tryz.prog 13 ⟨[vG [vU 0, vU 255, vU 0, vU 136]]⟩ (vS y20) wz)] H16 (by subst hx17 hx19 hx21; kernel_rfl) ⟨fun hg => parseval_Shown_ok 300 _ _ (bT (hg.1) hy18) _ (s0tab (s0im s0nil (hS.im 2 rfl)) (hS.at 1 rfl)), fun hg => parseval_Shown_ok 300 _ _ (bT (hg.1) hy20) _ (s0tab (s0im s0nil (hS.im 2 rfl)) (hS.at 1 rfl)), trivial⟩ fun _ _ H23 hb => ?_
 replace hS := hS.below hb
 clear H16 hb
 refine w_ret ?_
 obtain rfl := someE hm
 exact retR1 H23 rfl rfl ⟨_, rfl, rfl, (hS.sel [] rfl)⟩
theorem law26_alive_ok  (m : Nat)  (r : Bool) (hm : law26_alive m = some r) (w : World) (hL : S0 F0 [gE1, Ent.tab 0 (Lib.pow10Tab.map fun z => Value.int .u64 z), gE5] w ∧ fpl [gE1, Ent.tab 0 (Lib.pow10Tab.map fun z => Value.int .u64 z), gE5] = []) : RetB Tryz.prog 8 ⟨[]⟩ (vB r) w := retB_of hL (Tryz.call8 _) (fun w' h => law26_alive_w F0 m    r hm w' h)

def r04_Size_S (rec_ : (List TValue) → Int → Option (Int)) : Prop := ∀ (g_v_ : Gh) (M : Av) (v_ : List TValue) (most : Int) (r : Int), rec_ v_ most = some r → ∀ w, S0 M [eI tyValue v_ g_v_] w → Calls Tryz.prog 25 ⟨[vL g_v_ v_, vI most]⟩ w (fun e w' => ∃ v, e = .returned v ∧ v = vI r ∧ SH M (fpl [eI tyValue v_ g_v_]) w [] w')
theorem r04_Size_w (m : Nat) : ∀ (k : Nat), r04_Size_S (r04_Size_r m  k) := by
 intro k
 induction k with
 | zero => intro g_v_ M v_ most r hm; exact noneE hm
 | succ k ih =>
  intro g_v_ M v_ most r hm w hS
  rw [r04_Size_r] at hm
  have hS0 : SH M (fpl [eI tyValue v_ g_v_]) w [eI tyValue v_ g_v_] w := hS
  generalize hX : fpl [eI tyValue v_ g_v_] = X at hS0 ⊢
  clear hS hX
  have hS := hS0
  clear hS0
  refine calls_entryP Tryz.func25 rfl Tryz.ntmps25 rfl fun _ H => ?_
  refine s_reg [] [0, 1] [(0, [], vL g_v_ v_), (1, [], vI most)] [] H (by kernel_rfl) trivial fun _ _ H2 hb => ?_
  replace hS := hS.below hb
  clear H hb
  refine s_reg [] [0, 1, 5] [(0, [], vL g_v_ v_), (1, [], vI most), (5, [], vI 0)] [] H2 (by kernel_rfl) trivial fun _ _ H4 hb => ?_
  replace hS := hS.below hb
  clear H2 hb
  obtain ⟨z5, hz, hm⟩ := bindE hm
  refine w_cut (fun a' w' => Fr 47 [(5, [], vI z5)] a' ∧ SH M X w [eI tyValue v_ g_v_] w') ?_ ?_
  ·replace hm := hz
   refine s_reg [] [0, 1, 5, 6] [(0, [], vL g_v_ v_), (1, [], vI most), (5, [], vI 0), (6, [], vI 0)] [] H4 (by kernel_rfl) trivial fun _ _ H7 hb => ?_
   replace hS := hS.below hb
   clear H4 hb
   refine w_block ?_
   refine w_loop (fun kk a' w' => ∃ (v8 : Int) (v9 : Int), r04_Size_L1 m v_ most (r04_Size_r m k) kk v8 v9 = some _ ∧ Fr 47 [(0, [], vL g_v_ v_), (1, [], vI most), (5, [], vI v8), (6, [], vI v9)] a' ∧ SH M X w [eI tyValue v_ g_v_] w') ⟨_, 0, 0, hm, FrG.keep (ks := [0, 1, 5, 6]) H7 (by kernel_rfl), hS⟩ ?_
   clear hm H7 hS
   rintro kk _ _ ⟨v8, v9, hm, H, hS⟩
   cases kk with
   | zero => exact noneE hm
   | succ kk =>
    rw [r04_Size_L1] at hm
    refine w_seq ?_
    obtain ⟨x10, hx10, hm⟩ := letE hm
    refine s_reg [] [0, 1, 5, 6, 15] [(0, [], vL g_v_ v_), (1, [], vI most), (5, [], vI v8), (6, [], vI v9), (15, [], vB x10)] [] H (by subst hx10; kernel_rfl) trivial fun _ _ H12 hb => ?_
    replace hS := hS.below hb
    clear H hb
    refine w_if H12 rfl (fun hc => ?_) (fun hc => ?c20)
    case c20 =>
     replace hm := bF hc hm
     refine w_exit rfl ?_
     obtain rfl := someE hm
     exact ⟨FrG.keep (ks := [5]) H12 (by kernel_rfl), hS⟩
    replace hm := bT hc hm
    refine w_skip ?_
    refine w_seq ?_
    refine w_block ?_
    obtain ⟨ho13, hm⟩ := chkE hm
    obtain ⟨x14, hx14, hm⟩ := letE hm
    obtain ⟨y15, hy15, hm⟩ := bindE hm
    refine w_draw [(vS (gi v_ v9).Token.Text), (vS (gi v_ v9).Token.Unit), (.slice (g_v_.s (v9).toNat 0).a (((gi v_ v9).List_).length) (g_v_.s (v9).toNat 0).c), (vI y15)] [0, 1, 5, 6] [(0, [], vL g_v_ v_), (1, [], vI most), (5, [], vI (w64 (v8 + (w64 (x14 + y15))))), (6, [], vI v9)] [fun _ => oka g_v_.a ∧ 0 ≤ v9 ∧ v9 < ln v_, fun wz => V.at1 ⟨ab g_v_.a, ao g_v_.a + (v9).toNat * 6 + 1, none⟩ (vS (gi v_ v9).Token.Text) wz, fun _ => oka g_v_.a ∧ 0 ≤ v9 ∧ v9 < ln v_, fun wz => V.at1 ⟨ab g_v_.a, ao g_v_.a + (v9).toNat * 6 + 3, none⟩ (vS (gi v_ v9).Token.Unit) wz, fun _ => oka g_v_.a ∧ 0 ≤ v9 ∧ v9 < ln v_, fun wz => V.at1 ⟨ab g_v_.a, ao g_v_.a + (v9).toNat * 6 + 5, none⟩ (.slice (g_v_.s (v9).toNat 0).a (((gi v_ v9).List_).length) (g_v_.s (v9).toNat 0).c) wz, rB 25 [.slice (g_v_.s (v9).toNat 0).a (((gi v_ v9).List_).length) (g_v_.s (v9).toNat 0).c, vI (w64 (most - v8))] (vI y15)] H12 (by kernel_rfl) (by kernel_rfl) (by subst hx14; kernel_rfl) ⟨((hS.im 0 rfl).oki ho13), ((hS.im 0 rfl).at1 ho13 1 rfl), ((hS.im 0 rfl).oki ho13), ((hS.im 0 rfl).at1 ho13 3 rfl), ((hS.im 0 rfl).oki ho13), ((hS.im 0 rfl).at1 ho13 5 rfl), (retB_of (s0im s0nil (tyValue_i0 ((hS.im 0 rfl).el ho13))) (Tryz.call25 _) (fun w' h' => ih ((g_v_.s (v9).toNat 0)) F0 _ _ _ hy15 w' h')), trivial⟩ fun _ _ H17 hb => ?_
    replace hS := hS.below hb
    clear H12 hb
    refine w_reg [] [0, 1, 5, 6] [(0, [], vL g_v_ v_), (1, [], vI most), (5, [], vI (w64 (v8 + (w64 (x14 + y15))))), (6, [], vI (w64 (v9 + 1)))] [] H17 (by kernel_rfl) trivial fun _ _ H19 hb => ?_
    replace hS := hS.below hb
    clear H17 hb
    exact ⟨_, Nat.lt_succ_self _, w64 (v8 + (w64 (x14 + y15))), w64 (v9 + 1), hm, FrG.keep (ks := [0, 1, 5, 6]) H19 (by kernel_rfl), hS⟩
  ·rintro _ _ ⟨H, hS⟩
   replace hS : SH M X w [] _ := hS.sel [] rfl
   refine s_reg [] [4] [(4, [], vI z5)] [] H (by kernel_rfl) trivial fun _ _ H23 hb => ?_
   replace hS := hS.below hb
   clear H hb
   refine w_ret ?_
   obtain rfl := someE hm
   exact retR1 H23 rfl rfl ⟨_, rfl, rfl, (hS.sel [] rfl)⟩
theorem r04_Size_ok {g_v_ : Gh} (m : Nat) (v_ : List TValue) (most : Int) (r : Int) (hm : r04_Size m v_ most = some r) (w : World) (hL : S0 F0 [eI tyValue v_ g_v_] w ∧ fpl [eI tyValue v_ g_v_] = []) : RetB Tryz.prog 25 ⟨[vL g_v_ v_, vI most]⟩ (vI r) w := retB_of hL (Tryz.call25 _) (fun w' h => r04_Size_w m   m g_v_ F0 v_ most r hm w' h)

def r04_Deep_S (rec_ : (List TValue) → Option (Int)) : Prop := ∀ (g_v_ : Gh) (M : Av) (v_ : List TValue) (r : Int), rec_ v_ = some r → ∀ w, S0 M [eI tyValue v_ g_v_] w → Calls Tryz.prog 26 ⟨[vL g_v_ v_]⟩ w (fun e w' => ∃ v, e = .returned v ∧ v = vI r ∧ SH M (fpl [eI tyValue v_ g_v_]) w [] w')
theorem r04_Deep_w (m : Nat) : ∀ (k : Nat), r04_Deep_S (r04_Deep_r m  k) := by
 intro k
 induction k with
 | zero => intro g_v_ M v_ r hm; exact noneE hm
 | succ k ih =>
  intro g_v_ M v_ r hm w hS
  rw [r04_Deep_r] at hm
  have hS0 : SH M (fpl [eI tyValue v_ g_v_]) w [eI tyValue v_ g_v_] w := hS
  generalize hX : fpl [eI tyValue v_ g_v_] = X at hS0 ⊢
  clear hS hX
  have hS := hS0
  clear hS0
  refine calls_entryP Tryz.func26 rfl Tryz.ntmps26 rfl fun _ H => ?_
  refine s_reg [] [0] [(0, [], vL g_v_ v_)] [] H (by kernel_rfl) trivial fun _ _ H2 hb => ?_
  replace hS := hS.below hb
  clear H hb
  refine s_reg [] [0, 3] [(0, [], vL g_v_ v_), (3, [], vI 0)] [] H2 (by kernel_rfl) trivial fun _ _ H4 hb => ?_
  replace hS := hS.below hb
  clear H2 hb
  obtain ⟨z5, hz, hm⟩ := bindE hm
  refine w_cut (fun a' w' => Fr 29 [(3, [], vI z5)] a' ∧ SH M X w [eI tyValue v_ g_v_] w') ?_ ?_
  ·replace hm := hz
   refine s_reg [] [0, 3, 4] [(0, [], vL g_v_ v_), (3, [], vI 0), (4, [], vI 0)] [] H4 (by kernel_rfl) trivial fun _ _ H7 hb => ?_
   replace hS := hS.below hb
   clear H4 hb
   refine w_block ?_
   refine w_loop (fun kk a' w' => ∃ (v8 : Int) (v9 : Int), r04_Deep_L1 m v_ (r04_Deep_r m k) kk v8 v9 = some _ ∧ Fr 29 [(0, [], vL g_v_ v_), (3, [], vI v8), (4, [], vI v9)] a' ∧ SH M X w [eI tyValue v_ g_v_] w') ⟨_, 0, 0, hm, FrG.keep (ks := [0, 3, 4]) H7 (by kernel_rfl), hS⟩ ?_
   clear hm H7 hS
   rintro kk _ _ ⟨v8, v9, hm, H, hS⟩
   cases kk with
   | zero => exact noneE hm
   | succ kk =>
    rw [r04_Deep_L1] at hm
    refine w_seq ?_
    refine s_reg [] [0, 3, 4, 8] [(0, [], vL g_v_ v_), (3, [], vI v8), (4, [], vI v9), (8, [], vB (decide (v9 < (ln v_))))] [] H (by kernel_rfl) trivial fun _ _ H11 hb => ?_
    replace hS := hS.below hb
    clear H hb
    refine w_if H11 rfl (fun hc => ?_) (fun hc => ?c25)
    case c25 =>
     replace hm := bF hc hm
     refine w_exit rfl ?_
     obtain rfl := someE hm
     exact ⟨FrG.keep (ks := [3]) H11 (by kernel_rfl), hS⟩
    replace hm := bT hc hm
    refine w_skip ?_
    obtain ⟨z12, hz, hm⟩ := bindE hm
    refine w_cut (fun a' w' => Fr 29 [(0, [], vL g_v_ v_), (4, [], vI v9), (3, [], vI z12)] a' ∧ SH M X w [eI tyValue v_ g_v_] w') ?_ ?_
    ·replace hm := hz
     refine w_block ?_
     obtain ⟨ho13, hm⟩ := chkE hm
     obtain ⟨x14, hx14, hm⟩ := letE hm
     refine s_reg [(vU ((gi v_ v9).Token.Kind)), (vU (r04_Closer ((gi v_ v9).Token.Kind)))] [0, 3, 4, 18] [(0, [], vL g_v_ v_), (3, [], vI v8), (4, [], vI v9), (18, [], vB x14)] [fun _ => oka g_v_.a ∧ 0 ≤ v9 ∧ v9 < ln v_, fun wz => V.at1 ⟨ab g_v_.a, ao g_v_.a + (v9).toNat * 6, none⟩ (vU ((gi v_ v9).Token.Kind)) wz, rB 43 [vU ((gi v_ v9).Token.Kind)] (vU (r04_Closer ((gi v_ v9).Token.Kind)))] H11 (by subst hx14; kernel_rfl) ⟨((hS.im 0 rfl).oki ho13), ((hS.im 0 rfl).at1 ho13 0 rfl), ((r04_Closer_ok _).b), trivial⟩ fun _ _ H16 hb => ?_
     replace hS := hS.below hb
     clear H11 hb
     refine w_if H16 rfl (fun hc => ?_) (fun hc => ?c21)
     case c21 =>
      replace hm := bF hc hm
      refine w_skip ?_
      obtain rfl := someE hm
      exact ⟨FrG.keep (ks := [0, 4, 3]) H16 (by kernel_rfl), hS⟩
     replace hm := bT hc hm
     obtain ⟨y17, hy17, hm⟩ := bindE hm
     obtain ⟨x18, hx18, hm⟩ := letE hm
     refine w_reg [(.slice (g_v_.s (v9).toNat 0).a (((gi v_ v9).List_).length) (g_v_.s (v9).toNat 0).c), (vI y17)] [0, 3, 4] [(0, [], vL g_v_ v_), (3, [], vI x18), (4, [], vI v9)] [fun _ => oka g_v_.a ∧ 0 ≤ v9 ∧ v9 < ln v_, fun wz => V.at1 ⟨ab g_v_.a, ao g_v_.a + (v9).toNat * 6 + 5, none⟩ (.slice (g_v_.s (v9).toNat 0).a (((gi v_ v9).List_).length) (g_v_.s (v9).toNat 0).c) wz, rB 26 [.slice (g_v_.s (v9).toNat 0).a (((gi v_ v9).List_).length) (g_v_.s (v9).toNat 0).c] (vI y17)] H16 (by subst hx18; kernel_rfl) ⟨((hS.im 0 rfl).oki ho13), ((hS.im 0 rfl).at1 ho13 5 rfl), (retB_of (s0im s0nil (tyValue_i0 ((hS.im 0 rfl).el ho13))) (Tryz.call26 _) (fun w' h' => ih ((g_v_.s (v9).toNat 0)) F0 _ _ hy17 w' h')), trivial⟩ fun _ _ H20 hb => ?_
     replace hS := hS.below hb
     clear H16 hb
     obtain rfl := someE hm
     exact ⟨FrG.keep (ks := [0, 4, 3]) H20 (by kernel_rfl), hS⟩
    ·rintro _ _ ⟨H, hS⟩
     refine w_reg [] [0, 3, 4] [(0, [], vL g_v_ v_), (3, [], vI z12), (4, [], vI (w64 (v9 + 1)))] [] H (by kernel_rfl) trivial fun _ _ H23 hb => ?_
     replace hS := hS.below hb
     clear H hb
     exact ⟨_, Nat.lt_succ_self _, z12, w64 (v9 + 1), hm, FrG.keep (ks := [0, 3, 4]) H23 (by kernel_rfl), hS⟩
  ·rintro _ _ ⟨H, hS⟩
   replace hS : SH M X w [] _ := hS.sel [] rfl
   refine s_reg [] [2] [(2, [], vI z5)] [] H (by kernel_rfl) trivial fun _ _ H28 hb => ?_
   replace hS := hS.below hb
   clear H hb
   refine w_ret ?_
   obtain rfl := someE hm
   exact retR1 H28 rfl rfl ⟨_, rfl, rfl, (hS.sel [] rfl)⟩
theorem r04_Deep_ok {g_v_ : Gh} (m : Nat) (v_ : List TValue) (r : Int) (hm : r04_Deep m v_ = some r) (w : World) (hL : S0 F0 [eI tyValue v_ g_v_] w ∧ fpl [eI tyValue v_ g_v_] = []) : RetB Tryz.prog 26 ⟨[vL g_v_ v_]⟩ (vI r) w := retB_of hL (Tryz.call26 _) (fun w' h => r04_Deep_w m   m g_v_ F0 v_ r hm w' h)

theorem r04_Great_w {g_v_ : Gh} (M : Av) (m : Nat) (v_ : List TValue) (r : Bool) (hm : r04_Great m v_ = some r) (w : World) (hS : S0 M [eI tyValue v_ g_v_] w) : Calls Tryz.prog 9 ⟨[vL g_v_ v_]⟩ w (fun e w' => ∃ v, e = .returned v ∧ v = vB r ∧ SH M (fpl [eI tyValue v_ g_v_]) w [] w') := by
 rw [r04_Great] at hm
 have hS0 : SH M (fpl [eI tyValue v_ g_v_]) w [eI tyValue v_ g_v_] w := hS
 generalize hX : fpl [eI tyValue v_ g_v_] = X at hS0 ⊢
 clear hS hX
 have hS := hS0
 clear hS0
 refine calls_entryP Tryz.func9 rfl Tryz.ntmps9 rfl fun _ H => ?_
 refine s_reg [] [0] [(0, [], vL g_v_ v_)] [] H (by kernel_rfl) trivial fun _ _ H2 hb => ?_
 replace hS := hS.below hb
 clear H hb
 obtain ⟨y3, hy3, hm⟩ := bindE hm
 obtain ⟨y4, hy4, hm⟩ := bindE hm
 obtain ⟨x5, hx5, hm⟩ := letE hm
 refine s_reg [(vI y3), (vI y4)] [2] [(2, [], vB x5)] [rB 25 [vL g_v_ v_, vI 300] (vI y3), fun wz => ((decide (300 < y3)) = false ∧ True → RetB Tryz.prog 26 ⟨[vL g_v_ v_]⟩ (vI y4) wz)] H2 (by subst hx5; kernel_rfl) ⟨(r04_Size_ok (g_v_ := g_v_) m _ _ _ hy3 _ (s0im s0nil (hS.im 0 rfl))), fun hg => r04_Deep_ok (g_v_ := g_v_) m _ _ (bF (hg.1) hy4) _ (s0im s0nil (hS.im 0 rfl)), trivial⟩ fun _ _ H7 hb => ?_
 replace hS := hS.below hb
 clear H2 hb
 replace hS : SH M X w [] _ := hS.sel [] rfl
 refine w_ret ?_
 obtain rfl := someE hm
 exact retR1 H7 rfl rfl ⟨_, rfl, rfl, (hS.sel [] rfl)⟩
theorem r04_Great_ok {g_v_ : Gh} (m : Nat) (v_ : List TValue) (r : Bool) (hm : r04_Great m v_ = some r) (w : World) (hL : S0 F0 [eI tyValue v_ g_v_] w ∧ fpl [eI tyValue v_ g_v_] = []) : RetB Tryz.prog 9 ⟨[vL g_v_ v_]⟩ (vB r) w := retB_of hL (Tryz.call9 _) (fun w' h => r04_Great_w F0 m   v_ r hm w' h)

theorem x_strings_TrimRight_ok (x0 : Str) (x1 : Str) (r : Str) (hm : x_strings_TrimRight x0 x1 = some r) (w : World) : RetB Tryz.prog 55 ⟨[vS x0, vS x1]⟩ (vS r) w := by
  obtain ⟨h, hm⟩ := chkE hm
  obtain rfl := someE hm
  exact .inl ⟨Tryz.call55 _, fun w' _ => (Any.strings_TrimRight_laid Tryz.lays162 (by kernel_rfl) ⟨⟨x0⟩⟩ ⟨⟨x1⟩⟩ w' h.2.2 h.2.1 (ascB_get h.1)).mono fun e w'' he => ⟨he.1, he.2⟩⟩

theorem parseval_number_w  (M : Av) (n_ : Int) (r : Str) (hm : parseval_number n_ = some r) (w : World) (hS : S0 M [Ent.tab 0 (Lib.pow10Tab.map fun z => Value.int .u64 z)] w) : Calls Tryz.prog 35 ⟨[vI n_]⟩ w (fun e w' => ∃ v, e = .returned v ∧ v = vS r ∧ SH M (fpl [Ent.tab 0 (Lib.pow10Tab.map fun z => Value.int .u64 z)]) w [] w') := by
 rw [parseval_number] at hm
 have hS0 : SH M (fpl [Ent.tab 0 (Lib.pow10Tab.map fun z => Value.int .u64 z)]) w [Ent.tab 0 (Lib.pow10Tab.map fun z => Value.int .u64 z)] w := hS
 generalize hX : fpl [Ent.tab 0 (Lib.pow10Tab.map fun z => Value.int .u64 z)] = X at hS0 ⊢
 clear hS hX
 have hS := hS0
 clear hS0
 refine calls_entryP Tryz.func35 rfl Tryz.ntmps35 rfl fun _ H => ?_
 refine s_reg [] [0] [(0, [], vI n_)] [] H (by kernel_rfl) trivial fun _ _ H2 hb => ?_
 replace hS := hS.below hb
 clear H hb
 refine s_reg [] [0, 3] [(0, [], vI n_), (3, [], vN)] [] H2 (by kernel_rfl) trivial fun _ _ H4 hb => ?_
 replace hS := hS.below hb
 clear H2 hb
 obtain ⟨z5, hz, hm⟩ := bindE hm
 refine w_cut (fun a' w' => Fr 28 [(0, [], vI z5.1), (3, [], vS z5.2)] a' ∧ SH M X w [Ent.tab 0 (Lib.pow10Tab.map fun z => Value.int .u64 z)] w') ?_ ?_
 ·replace hm := hz
  refine s_reg [] [0, 3, 7] [(0, [], vI n_), (3, [], vN), (7, [], vB (decide (n_ < 0)))] [] H4 (by kernel_rfl) trivial fun _ _ H7 hb => ?_
  replace hS := hS.below hb
  clear H4 hb
  refine w_if H7 rfl (fun hc => ?_) (fun hc => ?c10)
  case c10 =>
   replace hm := bF hc hm
   refine w_skip ?_
   obtain rfl := someE hm
   exact ⟨FrG.keep (ks := [0, 3]) H7 (by kernel_rfl), hS⟩
  replace hm := bT hc hm
  refine w_reg [] [0, 3] [(0, [], vI (w64 (0 - n_))), (3, [], vS [45])] [] H7 (by kernel_rfl) trivial fun _ _ H9 hb => ?_
  replace hS := hS.below hb
  clear H7 hb
  obtain rfl := someE hm
  exact ⟨FrG.keep (ks := [0, 3]) H9 (by kernel_rfl), hS⟩
 ·rintro _ _ ⟨H, hS⟩
  obtain ⟨y11, hy11, hm⟩ := bindE hm
  refine s_reg [(vS y11)] [0, 3, 4] [(0, [], vI z5.1), (3, [], vS z5.2), (4, [], vS y11)] [fun _ => (1000 : Int) ≠ 0, rB 30 [vI (w64 (Int.tdiv z5.1 1000)), vI 10] (vS y11)] H (by kernel_rfl) ⟨(by show (1000 : Int) ≠ 0; decide), (x_FormatInt10_ok _ _ hy11 _ (s0tab s0nil (hS.at 0 rfl))), trivial⟩ fun _ _ H13 hb => ?_
  replace hS := hS.below hb
  clear H hb
  obtain ⟨z14, hz, hm⟩ := bindE hm
  refine w_cut (fun a' w' => Fr 28 [(3, [], vS z5.2), (4, [], vS z14)] a' ∧ SH M X w [Ent.tab 0 (Lib.pow10Tab.map fun z => Value.int .u64 z)] w') ?_ ?_
  ·replace hm := hz
   refine s_reg [] [3, 4, 5] [(3, [], vS z5.2), (4, [], vS y11), (5, [], vI (Int.tmod z5.1 1000))] [fun _ => (1000 : Int) ≠ 0] H13 (by kernel_rfl) ⟨(by show (1000 : Int) ≠ 0; decide), trivial⟩ fun _ _ H16 hb => ?_
   replace hS := hS.below hb
   clear H13 hb
   refine s_reg [] [3, 4, 5, 16] [(3, [], vS z5.2), (4, [], vS y11), (5, [], vI (Int.tmod z5.1 1000)), (16, [], vB (decide (0 < (Int.tmod z5.1 1000))))] [] H16 (by kernel_rfl) trivial fun _ _ H18 hb => ?_
   replace hS := hS.below hb
   clear H16 hb
   refine w_if H18 rfl (fun hc => ?_) (fun hc => ?c26)
   case c26 =>
    replace hm := bF hc hm
    refine w_skip ?_
    obtain rfl := someE hm
    exact ⟨FrG.keep (ks := [3, 4]) H18 (by kernel_rfl), hS⟩
   replace hm := bT hc hm
   obtain ⟨y19, hy19, hm⟩ := bindE hm
   obtain ⟨ho20, hm⟩ := chkE hm
   obtain ⟨y21, hy21, hm⟩ := bindE hm
   obtain ⟨ho22, hm⟩ := chkE hm
   obtain ⟨ho23, hm⟩ := chkE hm
   refine w_reg [(vS y19), (vS y21)] [3, 4] [(3, [], vS z5.2), (4, [], vS (y11 ++ ([46] ++ y21)))] [rB 30 [vI (w64 (1000 + (Int.tmod z5.1 1000))), vI 10] (vS y19), fun _ => 0 ≤ (1 : Int) ∧ (1 : Int) ≤ ln y19, rB 55 [vS (sub y19 1 (ln y19)), vS [48]] (vS y21), fun _ => ln [46] + ln y21 ≤ 9223372036854775807, fun _ => ln y11 + ln ([46] ++ y21) ≤ 9223372036854775807] H18 (by kernel_rfl) ⟨(x_FormatInt10_ok _ _ hy19 _ (s0tab s0nil (hS.at 0 rfl))), ho20, (x_strings_TrimRight_ok _ _ _ hy21 _), ho22, ho23, trivial⟩ fun _ _ H25 hb => ?_
   replace hS := hS.below hb
   clear H18 hb
   obtain rfl := someE hm
   exact ⟨FrG.keep (ks := [3, 4]) H25 (by kernel_rfl), hS⟩
  ·rintro _ _ ⟨H, hS⟩
   obtain ⟨ho27, hm⟩ := chkE hm
   refine s_reg [] [2] [(2, [], vS (z5.2 ++ z14))] [fun _ => ln z5.2 + ln z14 ≤ 9223372036854775807] H (by kernel_rfl) ⟨ho27, trivial⟩ fun _ _ H29 hb => ?_
   replace hS := hS.below hb
   clear H hb
   refine w_ret ?_
   obtain rfl := someE hm
   exact retR1 H29 rfl rfl ⟨_, rfl, rfl, (hS.sel [] rfl)⟩
theorem parseval_number_ok  (n_ : Int) (r : Str) (hm : parseval_number n_ = some r) (w : World) (hL : S0 F0 [Ent.tab 0 (Lib.pow10Tab.map fun z => Value.int .u64 z)] w ∧ fpl [Ent.tab 0 (Lib.pow10Tab.map fun z => Value.int .u64 z)] = []) : RetB Tryz.prog 35 ⟨[vI n_]⟩ (vS r) w := retB_of hL (Tryz.call35 _) (fun w' h => parseval_number_w F0   n_ r hm w' h)

theorem parseval_Write_w  (M : Av) (m : Nat) (v_ : TVal) (r : Str × Int) (hm : parseval_Write m v_ = some r) (w : World) (hS : S0 M [Ent.tab 0 (Lib.pow10Tab.map fun z => Value.int .u64 z), gE5] w) : Calls Tryz.prog 21 ⟨[vG [vU v_.Kind, vS v_.Word, vI v_.Num, vU v_.Color.Red, vU v_.Color.Green, vU v_.Color.Blue, vU v_.Color.Alpha]]⟩ w (fun e w' => ∃ v, e = .returned v ∧ v = vW [vS r.1, vI r.2] ∧ SH M (fpl [Ent.tab 0 (Lib.pow10Tab.map fun z => Value.int .u64 z), gE5]) w [] w') := by
 rw [parseval_Write] at hm
 have hS0 : SH M (fpl [Ent.tab 0 (Lib.pow10Tab.map fun z => Value.int .u64 z), gE5]) w [Ent.tab 0 (Lib.pow10Tab.map fun z => Value.int .u64 z), gE5] w := hS
 generalize hX : fpl [Ent.tab 0 (Lib.pow10Tab.map fun z => Value.int .u64 z), gE5] = X at hS0 ⊢
 clear hS hX
 have hS := hS0
 clear hS0
 refine calls_entryP Tryz.func21 rfl Tryz.ntmps21 rfl fun _ H => ?_
 refine w_seq ?_
 refine wl_start ?_
 have hd := hS.hand [] [0, 1] rfl rfl
 refine m_stp [1] [] H rfl rfl rfl rfl (o_box [vU v_.Kind, vS v_.Word, vI v_.Num, vU v_.Color.Red, vU v_.Color.Green, vU v_.Color.Blue, vU v_.Color.Alpha] H hd rfl rfl) (fun _ => rfl) fun _ _ v H3 hq => ?_
 clear H hd
 obtain ⟨b1, rfl, hq⟩ := hq
 replace hS : SH M X w [eB b1 [vU v_.Kind, vS v_.Word, vI v_.Num, vU v_.Color.Red, vU v_.Color.Green, vU v_.Color.Blue, vU v_.Color.Alpha], Ent.tab 0 (Lib.pow10Tab.map fun z => Value.int .u64 z), gE5] _ := hS.join [] [0, 1] rfl rfl hq
 clear hq
 refine wl_batch 1 3 [] [1] [(1, [], vP b1)] [] H3 (by decide) (by kernel_rfl) trivial fun _ _ H5 hb => ?_
 replace hS := hS.below hb
 clear H3 hb
 refine wl_end rfl ?_
 refine w_seq ?_
 obtain ⟨y6, hy6, hm⟩ := bindE hm
 refine s_reg [(vG [vU v_.Kind, vS v_.Word, vI v_.Num, vU v_.Color.Red, vU v_.Color.Green, vU v_.Color.Blue, vU v_.Color.Alpha]), (vI y6)] [1, 4] [(1, [], vP b1), (4, [], vI y6)] [rN b1 0 [vU v_.Kind, vS v_.Word, vI v_.Num, vU v_.Color.Red, vU v_.Color.Green, vU v_.Color.Blue, vU v_.Color.Alpha], rB 34 [vG [vU v_.Kind, vS v_.Word, vI v_.Num, vU v_.Color.Red, vU v_.Color.Green, vU v_.Color.Blue, vU v_.Color.Alpha]] (vI y6)] H5 (by kernel_rfl) ⟨((hS.bk 0 rfl).atD rfl), ((props_Check_ok _ _ hy6).b), trivial⟩ fun _ _ H8 hb => ?_
 replace hS := hS.below hb
 clear H5 hb
 refine s_reg [] [1, 4, 9] [(1, [], vP b1), (4, [], vI y6), (9, [], vB (y6 != 0))] [] H8 (by kernel_rfl) trivial fun _ _ H10 hb => ?_
 replace hS := hS.below hb
 clear H8 hb
 refine w_if H10 rfl (fun hc => ?c67) (fun hc => ?_)
 case c67 =>
  replace hm := bT hc hm
  refine s_reg [] [2, 3] [(2, [], vN), (3, [], vI y6)] [] H10 (by kernel_rfl) trivial fun _ _ H12 hb => ?_
  replace hS := hS.below hb
  clear H10 hb
  replace hS : SH M X w [Ent.tab 0 (Lib.pow10Tab.map fun z => Value.int .u64 z), gE5] _ := hS.sel [1, 2] rfl
  refine w_ret ?_
  obtain rfl := someE hm
  exact retR2 H12 rfl rfl rfl ⟨_, rfl, rfl, (hS.sel [] rfl)⟩
 replace hm := bF hc hm
 refine w_skip ?_
 refine s_reg [] [1, 5] [(1, [], vP b1), (5, [], vN)] [] H10 (by kernel_rfl) trivial fun _ _ H14 hb => ?_
 replace hS := hS.below hb
 clear H10 hb
 obtain ⟨z15, hz, hm_z15⟩ := bindE hm
 refine w_cut (fun a' w' => ∃ s_z15 : Str × Int, z15 = Sum.inr s_z15 ∧ Fr 43 [(1, [], vP b1), (5, [], vS s_z15.1)] a' ∧ SH M X w [eB b1 [vU v_.Kind, vS v_.Word, vI s_z15.2, vU v_.Color.Red, vU v_.Color.Green, vU v_.Color.Blue, vU v_.Color.Alpha], Ent.tab 0 (Lib.pow10Tab.map fun z => Value.int .u64 z), gE5] w') ?_ ?_
 ·replace hm := hz
  refine s_reg [(vU v_.Kind)] [1, 5, 12] [(1, [], vP b1), (5, [], vN), (12, [], vU v_.Kind)] [rA b1 0 (vU v_.Kind)] H14 (by kernel_rfl) ⟨((hS.bk 0 rfl).at1 rfl), trivial⟩ fun _ _ H17 hb => ?_
  replace hS := hS.below hb
  clear H14 hb
  refine w_block ?_
  refine w_seq ?_
  refine w_block ?_
  refine w_seq ?_
  refine w_block ?_
  obtain ⟨z18, hz, hm_z18⟩ := bindE hm
  refine w_cut (fun a' w' => ∃ s_z18 : Str, z18 = Sum.inr s_z18 ∧ Fr 43 [(1, [], vP b1), (5, [], vS s_z18)] a' ∧ SH M X w [eB b1 [vU v_.Kind, vS v_.Word, vI v_.Num, vU v_.Color.Red, vU v_.Color.Green, vU v_.Color.Blue, vU v_.Color.Alpha], Ent.tab 0 (Lib.pow10Tab.map fun z => Value.int .u64 z), gE5] w') ?_ ?_
  ·replace hm := hz
   refine w_block ?_
   refine w_seq ?_
   refine w_block ?_
   refine w_seq ?_
   refine w_block ?_
   refine w_seq ?_
   refine w_block ?_
   refine w_seq ?_
   refine w_block ?_
   refine w_seq ?_
   refine w_seq ?_
   refine s_reg [] [1, 5, 12, 13] [(1, [], vP b1), (5, [], vN), (12, [], vU v_.Kind), (13, [], vB (v_.Kind == 1))] [] H17 (by kernel_rfl) trivial fun _ _ H20 hb => ?_
   replace hS := hS.below hb
   clear H17 hb
   refine w_if H20 rfl (fun hc => ?c57) (fun hc => ?_)
   case c57 =>
    replace hm := bT hc hm
    refine w_exit rfl ?_
    refine w_seq ?_
    refine s_reg [(vS v_.Word)] [2, 3] [(2, [], vS v_.Word), (3, [], vI 0)] [rA b1 1 (vS v_.Word)] H20 (by kernel_rfl) ⟨((hS.bk 0 rfl).at1 rfl), trivial⟩ fun _ _ H22 hb => ?_
    replace hS := hS.below hb
    clear H20 hb
    refine w_ret ?_
    obtain rfl := someE hm
    have hm := hm_z18
    obtain rfl := someE hm
    have hm := hm_z15
    obtain rfl := someE hm
    exact retR2 H22 rfl rfl rfl ⟨_, rfl, rfl, (hS.sel [] rfl)⟩
   replace hm := bF hc hm
   refine w_skip ?_
   refine w_seq ?_
   refine s_reg [] [1, 5, 12, 15] [(1, [], vP b1), (5, [], vN), (12, [], vU v_.Kind), (15, [], vB (v_.Kind == 7))] [] H20 (by kernel_rfl) trivial fun _ _ H24 hb => ?_
   replace hS := hS.below hb
   clear H20 hb
   refine w_if H24 rfl (fun hc => ?c56) (fun hc => ?_)
   case c56 =>
    replace hm := bT hc hm
    refine w_exit rfl ?_
    refine w_seq ?_
    obtain ⟨y25, hy25, hm⟩ := bindE hm
    refine s_reg [(vG [vU v_.Color.Red, vU v_.Color.Green, vU v_.Color.Blue, vU v_.Color.Alpha]), (vS y25)] [2, 3] [(2, [], vS y25), (3, [], vI 0)] [rN b1 3 [vU v_.Color.Red, vU v_.Color.Green, vU v_.Color.Blue, vU v_.Color.Alpha], rB 13 [vG [vU v_.Color.Red, vU v_.Color.Green, vU v_.Color.Blue, vU v_.Color.Alpha]] (vS y25)] H24 (by kernel_rfl) ⟨((hS.bk 0 rfl).atD rfl), (parseval_Shown_ok 300 _ _ hy25 _ (s0tab (s0im s0nil (hS.im 2 rfl)) (hS.at 1 rfl))), trivial⟩ fun _ _ H27 hb => ?_
    replace hS := hS.below hb
    clear H24 hb
    refine w_ret ?_
    obtain rfl := someE hm
    have hm := hm_z18
    obtain rfl := someE hm
    have hm := hm_z15
    obtain rfl := someE hm
    exact retR2 H27 rfl rfl rfl ⟨_, rfl, rfl, (hS.sel [] rfl)⟩
   replace hm := bF hc hm
   refine w_skip ?_
   refine w_seq ?_
   refine s_reg [] [1, 5, 12, 17] [(1, [], vP b1), (5, [], vN), (12, [], vU v_.Kind), (17, [], vB (v_.Kind == 8))] [] H24 (by kernel_rfl) trivial fun _ _ H29 hb => ?_
   replace hS := hS.below hb
   clear H24 hb
   refine w_if H29 rfl (fun hc => ?c55) (fun hc => ?_)
   case c55 =>
    replace hm := bT hc hm
    refine w_exit rfl ?_
    refine w_seq ?_
    refine s_reg [] [2, 3] [(2, [], vS [99, 117, 114, 114, 101, 110, 116, 99, 111, 108, 111, 114]), (3, [], vI 0)] [] H29 (by kernel_rfl) trivial fun _ _ H31 hb => ?_
    replace hS := hS.below hb
    clear H29 hb
    refine w_ret ?_
    obtain rfl := someE hm
    have hm := hm_z18
    obtain rfl := someE hm
    have hm := hm_z15
    obtain rfl := someE hm
    exact retR2 H31 rfl rfl rfl ⟨_, rfl, rfl, (hS.sel [] rfl)⟩
   replace hm := bF hc hm
   refine w_skip ?_
   refine w_seq ?_
   refine s_reg [] [1, 5, 12, 19] [(1, [], vP b1), (5, [], vN), (12, [], vU v_.Kind), (19, [], vB (v_.Kind == 4))] [] H29 (by kernel_rfl) trivial fun _ _ H33 hb => ?_
   replace hS := hS.below hb
   clear H29 hb
   refine w_if H33 rfl (fun hc => ?c54) (fun hc => ?_)
   case c54 =>
    replace hm := bT hc hm
    refine w_exit rfl ?_
    refine w_reg [] [1, 5] [(1, [], vP b1), (5, [], vS [114])] [] H33 (by kernel_rfl) trivial fun _ _ H35 hb => ?_
    replace hS := hS.below hb
    clear H33 hb
    obtain rfl := someE hm
    exact ⟨_, rfl, FrG.keep (ks := [1, 5]) H35 (by kernel_rfl), hS⟩
   replace hm := bF hc hm
   refine w_skip ?_
   refine w_seq ?_
   refine s_reg [] [1, 5, 12, 21] [(1, [], vP b1), (5, [], vN), (12, [], vU v_.Kind), (21, [], vB (v_.Kind == 3))] [] H33 (by kernel_rfl) trivial fun _ _ H37 hb => ?_
   replace hS := hS.below hb
   clear H33 hb
   refine w_if H37 rfl (fun hc => ?c53) (fun hc => ?_)
   case c53 =>
    replace hm := bT hc hm
    refine w_exit rfl ?_
    obtain rfl := someE hm
    exact ⟨_, rfl, FrG.keep (ks := [1, 5]) H37 (by kernel_rfl), hS⟩
   replace hm := bF hc hm
   refine w_skip ?_
   refine w_seq ?_
   refine s_reg [] [1, 5, 12, 23] [(1, [], vP b1), (5, [], vN), (12, [], vU v_.Kind), (23, [], vB (v_.Kind == 2))] [] H37 (by kernel_rfl) trivial fun _ _ H39 hb => ?_
   replace hS := hS.below hb
   clear H37 hb
   refine w_if H39 rfl (fun hc => ?c52) (fun hc => ?_)
   case c52 =>
    replace hm := bT hc hm
    refine w_exit rfl ?_
    obtain ⟨r42, hr_r42, hm⟩ := bindE hm
    obtain rfl := someE hm
    have hm := hm_z18
    obtain rfl := someE hm
    have hm := hr_r42
    clear hr_r42
    refine s_reg [] [1, 5] [(1, [], vP b1), (5, [], vS [112, 120])] [] H39 (by kernel_rfl) trivial fun _ _ H41 hb => ?_
    replace hS := hS.below hb
    clear H39 hb
    refine w_exit rfl ?_
    obtain rfl := someE hm
    exact ⟨_, rfl, FrG.keep (ks := [1, 5]) H41 (by kernel_rfl), hS⟩
   replace hm := bF hc hm
   refine w_skip ?_
   refine s_reg [] [1, 5, 25] [(1, [], vP b1), (5, [], vN), (25, [], vB (v_.Kind == 6))] [] H39 (by kernel_rfl) trivial fun _ _ H44 hb => ?_
   replace hS := hS.below hb
   clear H39 hb
   refine w_if H44 rfl (fun hc => ?_) (fun hc => ?c51)
   case c51 =>
    replace hm := bF hc hm
    refine w_skip ?_
    refine w_exit rfl ?_
    obtain ⟨r50, hr_r50, hm⟩ := bindE hm
    obtain rfl := someE hm
    have hm := hm_z18
    obtain rfl := someE hm
    have hm := hr_r50
    clear hr_r50
    obtain rfl := someE hm
    exact ⟨_, rfl, FrG.keep (ks := [1, 5]) H44 (by kernel_rfl), hS⟩
   replace hm := bT hc hm
   refine w_exit rfl ?_
   obtain ⟨r49, hr_r49, hm⟩ := bindE hm
   obtain rfl := someE hm
   have hm := hm_z18
   obtain rfl := someE hm
   have hm := hr_r49
   clear hr_r49
   refine w_seq ?_
   refine wl_start ?_
   refine wl_batch 0 4 [(vI v_.Num)] [1, 5, 36, 37] [(1, [], vP b1), (5, [], vN), (36, [], vI (w64 (v_.Num * 1000))), (37, [], vA b1 2)] [rA b1 2 (vI v_.Num)] H44 (by decide) (by kernel_rfl) ⟨((hS.bk 0 rfl).at1 rfl), trivial⟩ fun _ _ H46 hb => ?_
   replace hS := hS.below hb
   clear H44 hb
   have hd := hS.hand [0] [1, 2] rfl rfl
   refine m_stp0 [1, 5] [(1, [], vP b1), (5, [], vN)] H46 rfl rfl rfl (o_store [vU v_.Kind, vS v_.Word, vI (w64 (v_.Num * 1000)), vU v_.Color.Red, vU v_.Color.Green, vU v_.Color.Blue, vU v_.Color.Alpha] H46 hd rfl rfl (by kernel_rfl) rfl rfl rfl) rfl fun _ _ H48 hq => ?_
   clear H46 hd
   obtain ⟨_, hq⟩ := hq
   replace hS : SH M X w [eB b1 [vU v_.Kind, vS v_.Word, vI (w64 (v_.Num * 1000)), vU v_.Color.Red, vU v_.Color.Green, vU v_.Color.Blue, vU v_.Color.Alpha], Ent.tab 0 (Lib.pow10Tab.map fun z => Value.int .u64 z), gE5] _ := hS.join [0] [1, 2] rfl rfl hq
   clear hq
   refine wl_end rfl ?_
   refine w_exit rfl ?_
   obtain rfl := someE hm
   exact ⟨_, rfl, FrG.keep (ks := [1, 5]) H48 (by kernel_rfl), hS⟩
  ·rintro _ _ ⟨s_z18, hz, H, hS⟩
   subst hz
   replace hm := sumR hm_z18
   obtain ⟨ho58, hm⟩ := chkE hm
   refine s_reg [] [1, 5] [(1, [], vP b1), (5, [], vS (s_z18 ++ [101, 109]))] [fun _ => ln s_z18 + ln [101, 109] ≤ 9223372036854775807] H (by kernel_rfl) ⟨ho58, trivial⟩ fun _ _ H60 hb => ?_
   replace hS := hS.below hb
   clear H hb
   refine w_exit rfl ?_
   obtain rfl := someE hm
   exact ⟨_, rfl, FrG.keep (ks := [1, 5]) H60 (by kernel_rfl), hS⟩
 ·rintro _ _ ⟨s_z15, hz, H, hS⟩
  subst hz
  replace hm := sumR hm_z15
  obtain ⟨y62, hy62, hm⟩ := bindE hm
  obtain ⟨ho63, hm⟩ := chkE hm
  refine s_reg [(vI s_z15.2), (vS y62)] [2, 3] [(2, [], vS (y62 ++ s_z15.1)), (3, [], vI 0)] [rA b1 2 (vI s_z15.2), rB 35 [vI s_z15.2] (vS y62), fun _ => ln y62 + ln s_z15.1 ≤ 9223372036854775807] H (by kernel_rfl) ⟨((hS.bk 0 rfl).at1 rfl), (parseval_number_ok _ _ hy62 _ (s0tab s0nil (hS.at 1 rfl))), ho63, trivial⟩ fun _ _ H65 hb => ?_
  replace hS := hS.below hb
  clear H hb
  replace hS : SH M X w [Ent.tab 0 (Lib.pow10Tab.map fun z => Value.int .u64 z), gE5] _ := hS.sel [1, 2] rfl
  refine w_ret ?_
  obtain rfl := someE hm
  exact retR2 H65 rfl rfl rfl ⟨_, rfl, rfl, (hS.sel [] rfl)⟩
theorem parseval_Write_ok  (m : Nat) (v_ : TVal) (r : Str × Int) (hm : parseval_Write m v_ = some r) (w : World) (hL : S0 F0 [Ent.tab 0 (Lib.pow10Tab.map fun z => Value.int .u64 z), gE5] w ∧ fpl [Ent.tab 0 (Lib.pow10Tab.map fun z => Value.int .u64 z), gE5] = []) : RetB Tryz.prog 21 ⟨[vG [vU v_.Kind, vS v_.Word, vI v_.Num, vU v_.Color.Red, vU v_.Color.Green, vU v_.Color.Blue, vU v_.Color.Alpha]]⟩ (vW [vS r.1, vI r.2]) w := retB_of hL (Tryz.call21 _) (fun w' h => parseval_Write_w F0 m   v_ r hm w' h)

end Go.Proofs.YtemchjneoalnoaaGreatDoor
