/-
  What the Go functions compute, as Lean functions, and that a call returns just that. Printed by a program.
-/
import Derived.Test.YtpgflfjmjppmeaaGreatDoorRows
import Derived.Test.YtpgflfjmjppmeaaGreatDoorX
import Derived.Test.YtpgflfjmjppmeaaGreatDoorMP
import Derived.Test.YtpgflfjmjppmeaaGreatDoorCO
import Derived.Test.YtpgflfjmjppmeaaGreatDoorM
import Derived.Test.YtpgflfjmjppmeaaGreatDoorW27pa
set_option linter.unusedVariables false
set_option maxRecDepth 20000
set_option maxHeartbeats 4000000
namespace Go.Proofs.YtpgflfjmjppmeaaGreatDoor
open Go.V Go.RowKit

theorem r25_Table_w  (M : Av)  (r : List TProp) (hm : r25_Table = some r) (w : World) (hS : S0 M [] w) : Calls Tryz.prog 59 ⟨[]⟩ w (fun e w' => ∃ v, e = .returned v ∧ ∃ (g901 : Gh), v = vL g901 r ∧ SH M (fpl []) w [eO 100 tyProp r g901] w') := by
 rw [r25_Table] at hm
 have hS0 : SH M (fpl []) w [] w := hS
 generalize hX : fpl [] = X at hS0 ⊢
 clear hS hX
 have hS := hS0
 clear hS0
 refine calls_entryP Tryz.func59 rfl Tryz.ntmps59 rfl fun _ H => ?_
 refine s_reg [] [] [] [] H (by kernel_rfl) trivial fun _ _ H2 hb => ?_
 replace hS := hS.below hb
 clear H hb
 apply w_seq
 apply wl_start
 refine wl_batch 0 1 [] [5] [(5, [], vG [vU 8, vN, vI 0, vU 0, vU 0, vU 0, vU 0])] [] H2 (by decide) (by kernel_rfl) trivial fun _ _ H4 hb => ?_
 replace hS := hS.below hb
 clear H2 hb
 have hd := hS.hand [] [] rfl rfl
 refine m_stp [1, 5] [(5, [], vG [vU 8, vN, vI 0, vU 0, vU 0, vU 0, vU 0])] H4 rfl rfl rfl rfl (o_alloc [vU 0, vN, vI 0, vU 0, vU 0, vU 0, vU 0] (z := vG [vU 0, vN, vI 0, vU 0, vU 0, vU 0, vU 0]) hd (by kernel_rfl) rfl) (fun _ => rfl) fun _ _ v H7 hq => ?_
 clear H4 hd
 obtain ⟨b5, rfl, hq⟩ := hq
 replace hS : SH M X w [eB b5 [vU 0, vN, vI 0, vU 0, vU 0, vU 0, vU 0]] _ := hS.join [] [] rfl rfl hq
 clear hq
 have hd := hS.hand [0] [] rfl rfl
 refine m_stp0 [1] [(1, [], vP b5)] H7 rfl rfl rfl (o_store [vU 8, vN, vI 0, vU 0, vU 0, vU 0, vU 0] H7 hd rfl rfl (by kernel_rfl) rfl rfl rfl) rfl fun _ _ H9 hq => ?_
 clear H7 hd
 obtain ⟨_, hq⟩ := hq
 replace hS : SH M X w [eB b5 [vU 8, vN, vI 0, vU 0, vU 0, vU 0, vU 0]] _ := hS.join [0] [] rfl rfl hq
 clear hq
 apply wl_end rfl
 apply w_seq
 apply wl_start
 have hd := hS.hand [] [0] rfl rfl
 refine m_stp [6, 1] [(1, [], vP b5)] H9 rfl rfl rfl rfl (o_lit (T := (tI .u8)) (E := 5) (zv := vU 0) [vU 7, vU 8] ([7, 8] : List Int) [gL [], gL []] _ H9 hd rfl (by kernel_rfl) (by kernel_rfl) (by kernel_rfl) (by kernel_rfl) (by kernel_rfl) (by kernel_rfl) (by kernel_rfl) rfl (InnL.cons trivial (InnL.cons trivial InnL.nil))) (fun _ => rfl) fun _ _ v H13 hq => ?_
 clear H9 hd
 obtain ⟨g10, rfl, hq⟩ := hq
 replace hS : SH M X w [eO 5 (tI .u8) ([7, 8] : List Int) g10, eB b5 [vU 8, vN, vI 0, vU 0, vU 0, vU 0, vU 0]] _ := hS.join [] [0] rfl rfl hq
 clear hq
 refine wl_batch 1 2 [] [1, 2] (fS [1, 2] [vP b5, vK g10 2]) [] H13 (by decide) (by kernel_rfl) trivial fun _ _ H15 hb => ?_
 replace hS := hS.below hb
 clear H13 hb
 apply wl_end rfl
 apply w_seq
 apply wl_start
 have hd := hS.hand [] [0, 1] rfl rfl
 refine m_stp [7, 1, 2] (fS [1, 2] [vP b5, vK g10 2]) H15 rfl rfl rfl rfl (o_lit (T := (tI .u8)) (E := 5) (zv := vU 0) [vU 2, vU 3, vU 4] kL1 [gL [], gL [], gL []] _ H15 hd rfl (by kernel_rfl) (by kernel_rfl) (by kernel_rfl) (by kernel_rfl) (by kernel_rfl) (by kernel_rfl) (by kernel_rfl) rfl (InnL.cons trivial (InnL.cons trivial (InnL.cons trivial InnL.nil)))) (fun _ => rfl) fun _ _ v H19 hq => ?_
 clear H15 hd
 obtain ⟨g16, rfl, hq⟩ := hq
 replace hS : SH M X w [eO 5 (tI .u8) kL1 g16, eO 5 (tI .u8) ([7, 8] : List Int) g10, eB b5 [vU 8, vN, vI 0, vU 0, vU 0, vU 0, vU 0]] _ := hS.join [] [0, 1] rfl rfl hq
 clear hq
 refine wl_batch 1 2 [] [1, 2, 3] (fS [1, 2, 3] [vP b5, vK g10 2, vK g16 3]) [] H19 (by decide) (by kernel_rfl) trivial fun _ _ H21 hb => ?_
 replace hS := hS.below hb
 clear H19 hb
 apply wl_end rfl
 apply w_seq
 apply wl_start
 refine wl_batch 0 1 [] [1, 2, 3, 8] (fS [1, 2, 3, 8] [vP b5, vK g10 2, vK g16 3, vG [vU 1, vS [97, 117, 116, 111], vI 0, vU 0, vU 0, vU 0, vU 0]]) [] H21 (by decide) (by kernel_rfl) trivial fun _ _ H23 hb => ?_
 replace hS := hS.below hb
 clear H21 hb
 have hd := hS.hand [] [0, 1, 2] rfl rfl
 refine m_stp [4, 1, 2, 3, 8] (fS [1, 2, 3, 8] [vP b5, vK g10 2, vK g16 3, vG [vU 1, vS [97, 117, 116, 111], vI 0, vU 0, vU 0, vU 0, vU 0]]) H23 rfl rfl rfl rfl (o_alloc [vU 0, vN, vI 0, vU 0, vU 0, vU 0, vU 0] (z := vG [vU 0, vN, vI 0, vU 0, vU 0, vU 0, vU 0]) hd (by kernel_rfl) rfl) (fun _ => rfl) fun _ _ v H26 hq => ?_
 clear H23 hd
 obtain ⟨b24, rfl, hq⟩ := hq
 replace hS : SH M X w [eB b24 [vU 0, vN, vI 0, vU 0, vU 0, vU 0, vU 0], eO 5 (tI .u8) kL1 g16, eO 5 (tI .u8) ([7, 8] : List Int) g10, eB b5 [vU 8, vN, vI 0, vU 0, vU 0, vU 0, vU 0]] _ := hS.join [] [0, 1, 2] rfl rfl hq
 clear hq
 have hd := hS.hand [0] [1, 2, 3] rfl rfl
 refine m_stp0 [1, 2, 3, 4] (fS [1, 2, 3, 4] [vP b5, vK g10 2, vK g16 3, vP b24]) H26 rfl rfl rfl (o_store [vU 1, vS [97, 117, 116, 111], vI 0, vU 0, vU 0, vU 0, vU 0] H26 hd rfl rfl (by kernel_rfl) rfl rfl rfl) rfl fun _ _ H28 hq => ?_
 clear H26 hd
 obtain ⟨_, hq⟩ := hq
 replace hS : SH M X w [eB b24 [vU 1, vS [97, 117, 116, 111], vI 0, vU 0, vU 0, vU 0, vU 0], eO 5 (tI .u8) kL1 g16, eO 5 (tI .u8) ([7, 8] : List Int) g10, eB b5 [vU 8, vN, vI 0, vU 0, vU 0, vU 0, vU 0]] _ := hS.join [0] [1, 2, 3] rfl rfl hq
 clear hq
 apply wl_end rfl
 obtain ⟨y30, hy30, hm⟩ := letE hm
 obtain ⟨y33, hy33, hm⟩ := letE hm
 obtain ⟨y40, hy40, hm⟩ := letE hm
 obtain ⟨y43, hy43, hm⟩ := letE hm
 obtain ⟨y46, hy46, hm⟩ := letE hm
 obtain ⟨y49, hy49, hm⟩ := letE hm
 obtain ⟨y52, hy52, hm⟩ := letE hm
 obtain ⟨y53, hy53, hm⟩ := letE hm
 obtain ⟨ho58, hm⟩ := chkE hm
 obtain ⟨q59, hq59, hm⟩ := letE hm
 obtain ⟨ho63, hm⟩ := chkE hm
 obtain ⟨q64, hq64, hm⟩ := letE hm
 obtain ⟨y66, hy66, hm⟩ := letE hm
 refine s_drawS (base := (fS [1, 2, 3, 4] [vP b5, vK g10 2, vK g16 3, vP b24])) (L := [eB b24 [vU 1, vS [97, 117, 116, 111], vI 0, vU 0, vU 0, vU 0, vU 0], eO 5 (tI .u8) kL1 g16, eO 5 (tI .u8) ([7, 8] : List Int) g10, eB b5 [vU 8, vN, vI 0, vU 0, vU 0, vU 0, vU 0]]) 69 4 (fun yg29 => [vG [vU 0, vU 0, vU 0, vU 255], vG [vU 7, vN, vI 0, vU 0, vU 0, vU 0, vU 255], vK g10 2, vG [vS [99, 111, 108, 111, 114], vT, vU 7, vN, vI 0, vU 0, vU 0, vU 0, vU 255, vO, vK g10 2, vF], vG [vU 7, vN, vI 0, vU 0, vU 0, vU 0, vU 0], vK g10 2, vG [vS [98, 97, 99, 107, 103, 114, 111, 117, 110, 100, 45, 99, 111, 108, 111, 114], vF, vU 7, vN, vI 0, vU 0, vU 0, vU 0, vU 0, vO, vK g10 2, vF], vG [vU 8, vN, vI 0, vU 0, vU 0, vU 0, vU 0], vK g10 2, vG [vS [98, 111, 114, 100, 101, 114, 45, 99, 111, 108, 111, 114], vF, vU 8, vN, vI 0, vU 0, vU 0, vU 0, vU 0, vO, vK g10 2, vF], vG [vU 8, vN, vI 0, vU 0, vU 0, vU 0, vU 0], vK g10 2, vG [vS [111, 117, 116, 108, 105, 110, 101, 45, 99, 111, 108, 111, 114], vF, vU 8, vN, vI 0, vU 0, vU 0, vU 0, vU 0, vO, vK g10 2, vF], vG (cV y30), vK (yg29 14 0) 5, vG [vS [100, 105, 115, 112, 108, 97, 121], vF, vU y30.Kind, vS y30.Word, vI y30.Num, vU y30.Color.Red, vU y30.Color.Green, vU y30.Color.Blue, vU y30.Color.Alpha, vK (yg29 14 0) 5, vO, vF], vG (cV y33), vK (yg29 17 0) 3, vG [vS [118, 105, 115, 105, 98, 105, 108, 105, 116, 121], vT, vU y33.Kind, vS y33.Word, vI y33.Num, vU y33.Color.Red, vU y33.Color.Green, vU y33.Color.Blue, vU y33.Color.Alpha, vK (yg29 17 0) 3, vO, vF], vG [vU 1, vS [97, 117, 116, 111], vI 0, vU 0, vU 0, vU 0, vU 0], vK (yg29 20 0) 1, vK g16 3, vG [vS [119, 105, 100, 116, 104], vF, vU 1, vS [97, 117, 116, 111], vI 0, vU 0, vU 0, vU 0, vU 0, vK (yg29 20 0) 1, vK g16 3, vT], vG [vU 1, vS [97, 117, 116, 111], vI 0, vU 0, vU 0, vU 0, vU 0], vK (yg29 24 0) 1, vK g16 3, vG [vS [104, 101, 105, 103, 104, 116], vF, vU 1, vS [97, 117, 116, 111], vI 0, vU 0, vU 0, vU 0, vU 0, vK (yg29 24 0) 1, vK g16 3, vT], vG (cV y40), vK (yg29 28 0) 1, vK g16 3, vG [vS [109, 97, 114, 103, 105, 110, 45, 116, 111, 112], vF, vU y40.Kind, vS y40.Word, vI y40.Num, vU y40.Color.Red, vU y40.Color.Green, vU y40.Color.Blue, vU y40.Color.Alpha, vK (yg29 28 0) 1, vK g16 3, vF], vG (cV y43), vK (yg29 32 0) 1, vK g16 3, vG [vS [109, 97, 114, 103, 105, 110, 45, 114, 105, 103, 104, 116], vF, vU y43.Kind, vS y43.Word, vI y43.Num, vU y43.Color.Red, vU y43.Color.Green, vU y43.Color.Blue, vU y43.Color.Alpha, vK (yg29 32 0) 1, vK g16 3, vF], vG (cV y46), vK (yg29 36 0) 1, vK g16 3, vG [vS [109, 97, 114, 103, 105, 110, 45, 98, 111, 116, 116, 111, 109], vF, vU y46.Kind, vS y46.Word, vI y46.Num, vU y46.Color.Red, vU y46.Color.Green, vU y46.Color.Blue, vU y46.Color.Alpha, vK (yg29 36 0) 1, vK g16 3, vF], vG (cV y49), vK (yg29 40 0) 1, vK g16 3, vG [vS [109, 97, 114, 103, 105, 110, 45, 108, 101, 102, 116], vF, vU y49.Kind, vS y49.Word, vI y49.Num, vU y49.Color.Red, vU y49.Color.Green, vU y49.Color.Blue, vU y49.Color.Alpha, vK (yg29 40 0) 1, vK g16 3, vF], vG (cV y52), vK g16 3, vG [vS [102, 111, 110, 116, 45, 115, 105, 122, 101], vT, vU y52.Kind, vS y52.Word, vI y52.Num, vU y52.Color.Red, vU y52.Color.Green, vU y52.Color.Blue, vU y52.Color.Alpha, vO, vK g16 3, vT], vG (cV y53), vK (yg29 47 0) 1, vK (yg29 48 0) 0, vK g16 3, .slice (yg29 50 0).a q59.length (yg29 50 0).c, vK (yg29 51 0) 1, .slice (yg29 52 0).a q64.length (yg29 52 0).c, vG [vS [108, 105, 110, 101, 45, 104, 101, 105, 103, 104, 116], vT, vU y53.Kind, vS y53.Word, vI y53.Num, vU y53.Color.Red, vU y53.Color.Green, vU y53.Color.Blue, vU y53.Color.Alpha, vK (yg29 47 0) 1, .slice (yg29 52 0).a q64.length (yg29 52 0).c, vT], vG (cV y66), vK (yg29 55 0) 4, vG [vS [116, 101, 120, 116, 45, 97, 108, 105, 103, 110], vT, vU y66.Kind, vS y66.Word, vI y66.Num, vU y66.Color.Red, vU y66.Color.Green, vU y66.Color.Blue, vU y66.Color.Alpha, vK (yg29 55 0) 4, vO, vF], vG [vU 5, vN, vI 1000, vU 0, vU 0, vU 0, vU 0], vK (yg29 58 0) 1, vG [vS [111, 112, 97, 99, 105, 116, 121], vF, vU 5, vN, vI 1000, vU 0, vU 0, vU 0, vU 0, vO, vK (yg29 58 0) 1, vF], vG [vU 1, vS [97, 117, 116, 111], vI 0, vU 0, vU 0, vU 0, vU 0], vK (yg29 61 0) 1, vK (yg29 62 0) 1, vG [vS [122, 45, 105, 110, 100, 101, 120], vF, vU 1, vS [97, 117, 116, 111], vI 0, vU 0, vU 0, vU 0, vU 0, vK (yg29 61 0) 1, vK (yg29 62 0) 1, vF], vG [vU 6, vN, vI 0, vU 0, vU 0, vU 0, vU 0], vK (yg29 65 0) 1, vG [vS [111, 114, 100, 101, 114], vF, vU 6, vN, vI 0, vU 0, vU 0, vU 0, vU 0, vO, vK (yg29 65 0) 1, vF], vK (yg29 67 0) 18, vK (yg29 67 0) 18]) (fun yg29 => [[], [], [], [], [], [], [], [], [], [], [], [], [], [], [eO 9 tS kL2 (yg29 14 0)], [], [], [eO 9 tS kL3 (yg29 17 0)], [], [], [eO 9 tS kL0 (yg29 20 0)], [], [], [], [eO 9 tS kL0 (yg29 24 0)], [], [], [], [eO 9 tS kL0 (yg29 28 0)], [], [], [], [eO 9 tS kL0 (yg29 32 0)], [], [], [], [eO 9 tS kL0 (yg29 36 0)], [], [], [], [eO 9 tS kL0 (yg29 40 0)], [], [], [], [], [], [], [eO 9 tS kL4 (yg29 47 0)], [eO 5 (tI .u8) ([] : List Int) (yg29 48 0)], [], [eO 5 (tI .u8) q59 (yg29 50 0)], [eO 5 (tI .u8) ([5] : List Int) (yg29 51 0)], [eO 5 (tI .u8) q64 (yg29 52 0)], [], [], [eO 9 tS kL5 (yg29 55 0)], [], [], [eO 5 (tI .u8) ([5] : List Int) (yg29 58 0)], [], [], [eO 9 tS kL0 (yg29 61 0)], [eO 5 (tI .u8) ([6] : List Int) (yg29 62 0)], [], [], [eO 5 (tI .u8) ([6] : List Int) (yg29 65 0)], [], [eO 100 tyProp ([(TProp.mk [99, 111, 108, 111, 114] true (TVal.mk 7 [] 0 (TColor.mk 0 0 0 255)) [] ([7, 8] : List Int) false), (TProp.mk [98, 97, 99, 107, 103, 114, 111, 117, 110, 100, 45, 99, 111, 108, 111, 114] false (TVal.mk 7 [] 0 (TColor.mk 0 0 0 0)) [] ([7, 8] : List Int) false), (TProp.mk [98, 111, 114, 100, 101, 114, 45, 99, 111, 108, 111, 114] false (TVal.mk 8 [] 0 (TColor.mk 0 0 0 0)) [] ([7, 8] : List Int) false), (TProp.mk [111, 117, 116, 108, 105, 110, 101, 45, 99, 111, 108, 111, 114] false (TVal.mk 8 [] 0 (TColor.mk 0 0 0 0)) [] ([7, 8] : List Int) false), (TProp.mk [100, 105, 115, 112, 108, 97, 121] false y30 kL2 [] false), (TProp.mk [118, 105, 115, 105, 98, 105, 108, 105, 116, 121] true y33 kL3 [] false), (TProp.mk [119, 105, 100, 116, 104] false (TVal.mk 1 [97, 117, 116, 111] 0 (TColor.mk 0 0 0 0)) kL0 kL1 true), (TProp.mk [104, 101, 105, 103, 104, 116] false (TVal.mk 1 [97, 117, 116, 111] 0 (TColor.mk 0 0 0 0)) kL0 kL1 true), (TProp.mk [109, 97, 114, 103, 105, 110, 45, 116, 111, 112] false y40 kL0 kL1 false), (TProp.mk [109, 97, 114, 103, 105, 110, 45, 114, 105, 103, 104, 116] false y43 kL0 kL1 false), (TProp.mk [109, 97, 114, 103, 105, 110, 45, 98, 111, 116, 116, 111, 109] false y46 kL0 kL1 false), (TProp.mk [109, 97, 114, 103, 105, 110, 45, 108, 101, 102, 116] false y49 kL0 kL1 false), (TProp.mk [102, 111, 110, 116, 45, 115, 105, 122, 101] true y52 [] kL1 true), (TProp.mk [108, 105, 110, 101, 45, 104, 101, 105, 103, 104, 116] true y53 kL4 q64 true), (TProp.mk [116, 101, 120, 116, 45, 97, 108, 105, 103, 110] true y66 kL5 [] false), (TProp.mk [111, 112, 97, 99, 105, 116, 121] false (TVal.mk 5 [] 1000 (TColor.mk 0 0 0 0)) [] ([5] : List Int) false), (TProp.mk [122, 45, 105, 110, 100, 101, 120] false (TVal.mk 1 [97, 117, 116, 111] 0 (TColor.mk 0 0 0 0)) kL0 ([6] : List Int) false), (TProp.mk [111, 114, 100, 101, 114] false (TVal.mk 6 [] 0 (TColor.mk 0 0 0 0)) [] ([6] : List Int) false)] : List TProp) (yg29 67 0), eI (tI .u8) ([6] : List Int) (yg29 65 0), eI (tI .u8) ([6] : List Int) (yg29 62 0), eI tS kL0 (yg29 61 0), eI (tI .u8) ([5] : List Int) (yg29 58 0), eI tS kL5 (yg29 55 0), eI (tI .u8) q64 (yg29 52 0), eI tS kL4 (yg29 47 0), eI tS kL0 (yg29 40 0), eI tS kL0 (yg29 36 0), eI tS kL0 (yg29 32 0), eI tS kL0 (yg29 28 0), eI tS kL0 (yg29 24 0), eI (tI .u8) kL1 (yg29 67 1), eI tS kL0 (yg29 20 0), eI tS kL3 (yg29 17 0), eI tS kL2 (yg29 14 0), eI (tI .u8) ([7, 8] : List Int) (yg29 67 2)], []]) [[], [], [], [71], [], [], [71], [72], [], [71], [72], [], [71], [], [], [14], [], [], [17], [69], [], [], [20, 70], [69], [], [], [24, 70], [], [], [], [28, 70], [], [], [], [32, 70], [], [], [], [36, 70], [], [], [], [40, 70], [], [], [70], [], [], [], [], [48, 70], [], [50, 51], [47, 52], [], [], [55], [], [], [58], [69], [], [], [61, 62], [], [], [65], [14, 17, 20, 24, 28, 32, 36, 40, 47, 52, 55, 58, 61, 62, 65, 70, 71], [67]] [[], [], [], [], [], [], [], [], [], [], [], [], [], [], [], [], [], [], [], [], [], [], [], [], [], [], [], [], [], [], [], [], [], [], [], [], [], [], [], [], [], [], [], [], [], [], [], [], [], [], [48], [], [50], [], [], [], [], [], [], [], [], [], [], [], [], [], [], [14, 17, 20, 24, 28, 32, 36, 40, 47, 52, 55, 58, 61, 62, 65, 70, 71], []] [[0], [0, 1], [2], [0, 1, 2, 3], [4], [5], [4, 5, 6], [7], [8], [7, 8, 9], [10], [11], [10, 11, 12], [13], [14], [13, 14, 15], [16], [17], [16, 17, 18], [19], [20], [21], [19, 20, 21, 22], [23], [24], [25], [23, 24, 25, 26], [27], [28], [29], [27, 28, 29, 30], [31], [32], [33], [31, 32, 33, 34], [35], [36], [37], [35, 36, 37, 38], [39], [40], [41], [39, 40, 41, 42], [43], [44], [43, 44, 45], [46], [47], [48], [49], [48, 49, 50], [51], [48, 49, 50, 51, 52], [46, 47, 48, 49, 50, 51, 52, 53], [54], [55], [54, 55, 56], [57], [58], [57, 58, 59], [60], [61], [62], [60, 61, 62, 63], [64], [65], [64, 65, 66], [0, 1, 2, 3, 4, 5, 6, 7, 8, 9, 10, 11, 12, 13, 14, 15, 16, 17, 18, 19, 20, 21, 22, 23, 24, 25, 26, 27, 28, 29, 30, 31, 32, 33, 34, 35, 36, 37, 38, 39, 40, 41, 42, 43, 44, 45, 46, 47, 48, 49, 50, 51, 52, 53, 54, 55, 56, 57, 58, 59, 60, 61, 62, 63, 64, 65, 66, 67], [0, 1, 2, 3, 4, 5, 6, 7, 8, 9, 10, 11, 12, 13, 14, 15, 16, 17, 18, 19, 20, 21, 22, 23, 24, 25, 26, 27, 28, 29, 30, 31, 32, 33, 34, 35, 36, 37, 38, 39, 40, 41, 42, 43, 44, 45, 46, 47, 48, 49, 50, 51, 52, 53, 54, 55, 56, 57, 58, 59, 60, 61, 62, 63, 64, 65, 66, 67, 68]] [] (FrG.keep (ks := [1, 2, 3, 4]) H28 (by kernel_rfl)) (fun _ _ h => by cases h) (by kernel_rfl) hS (by kernel_rfl) rfl rfl (by kernel_rfl) (by kernel_rfl) (by kernel_rfl) (gd_none (by kernel_rfl) _ _) ?hloc_yg29 ?hstep_yg29 fun _ _ yg29 H80 hv hS => ?hK_yg29
 case hloc_yg29 => exact ⟨(fun _ _ _ _ => ⟨rfl, rfl⟩), (fun _ _ _ _ => ⟨rfl, rfl⟩), (fun _ _ _ _ => ⟨rfl, rfl⟩), (fun _ _ _ _ => ⟨rfl, rfl⟩), (fun _ _ _ _ => ⟨rfl, rfl⟩), (fun _ _ _ _ => ⟨rfl, rfl⟩), (fun _ _ _ _ => ⟨rfl, rfl⟩), (fun _ _ _ _ => ⟨rfl, rfl⟩), (fun _ _ _ _ => ⟨rfl, rfl⟩), (fun _ _ _ _ => ⟨rfl, rfl⟩), (fun _ _ _ _ => ⟨rfl, rfl⟩), (fun _ _ _ _ => ⟨rfl, rfl⟩), (fun _ _ _ _ => ⟨rfl, rfl⟩), (fun _ _ _ _ => ⟨rfl, rfl⟩), (fun _ i g hi => lcG [14] (fun yg29 => (vK (yg29 14 0) 5, [eO 9 tS kL2 (yg29 14 0)])) hi rfl), (fun _ i g hi => lcG [14] (fun yg29 => (vG [vS [100, 105, 115, 112, 108, 97, 121], vF, vU y30.Kind, vS y30.Word, vI y30.Num, vU y30.Color.Red, vU y30.Color.Green, vU y30.Color.Blue, vU y30.Color.Alpha, vK (yg29 14 0) 5, vO, vF], [])) hi rfl), (fun _ _ _ _ => ⟨rfl, rfl⟩), (fun _ i g hi => lcG [17] (fun yg29 => (vK (yg29 17 0) 3, [eO 9 tS kL3 (yg29 17 0)])) hi rfl), (fun _ i g hi => lcG [17] (fun yg29 => (vG [vS [118, 105, 115, 105, 98, 105, 108, 105, 116, 121], vT, vU y33.Kind, vS y33.Word, vI y33.Num, vU y33.Color.Red, vU y33.Color.Green, vU y33.Color.Blue, vU y33.Color.Alpha, vK (yg29 17 0) 3, vO, vF], [])) hi rfl), (fun _ _ _ _ => ⟨rfl, rfl⟩), (fun _ i g hi => lcG [20] (fun yg29 => (vK (yg29 20 0) 1, [eO 9 tS kL0 (yg29 20 0)])) hi rfl), (fun _ _ _ _ => ⟨rfl, rfl⟩), (fun _ i g hi => lcG [20] (fun yg29 => (vG [vS [119, 105, 100, 116, 104], vF, vU 1, vS [97, 117, 116, 111], vI 0, vU 0, vU 0, vU 0, vU 0, vK (yg29 20 0) 1, vK g16 3, vT], [])) hi rfl), (fun _ _ _ _ => ⟨rfl, rfl⟩), (fun _ i g hi => lcG [24] (fun yg29 => (vK (yg29 24 0) 1, [eO 9 tS kL0 (yg29 24 0)])) hi rfl), (fun _ _ _ _ => ⟨rfl, rfl⟩), (fun _ i g hi => lcG [24] (fun yg29 => (vG [vS [104, 101, 105, 103, 104, 116], vF, vU 1, vS [97, 117, 116, 111], vI 0, vU 0, vU 0, vU 0, vU 0, vK (yg29 24 0) 1, vK g16 3, vT], [])) hi rfl), (fun _ _ _ _ => ⟨rfl, rfl⟩), (fun _ i g hi => lcG [28] (fun yg29 => (vK (yg29 28 0) 1, [eO 9 tS kL0 (yg29 28 0)])) hi rfl), (fun _ _ _ _ => ⟨rfl, rfl⟩), (fun _ i g hi => lcG [28] (fun yg29 => (vG [vS [109, 97, 114, 103, 105, 110, 45, 116, 111, 112], vF, vU y40.Kind, vS y40.Word, vI y40.Num, vU y40.Color.Red, vU y40.Color.Green, vU y40.Color.Blue, vU y40.Color.Alpha, vK (yg29 28 0) 1, vK g16 3, vF], [])) hi rfl), (fun _ _ _ _ => ⟨rfl, rfl⟩), (fun _ i g hi => lcG [32] (fun yg29 => (vK (yg29 32 0) 1, [eO 9 tS kL0 (yg29 32 0)])) hi rfl), (fun _ _ _ _ => ⟨rfl, rfl⟩), (fun _ i g hi => lcG [32] (fun yg29 => (vG [vS [109, 97, 114, 103, 105, 110, 45, 114, 105, 103, 104, 116], vF, vU y43.Kind, vS y43.Word, vI y43.Num, vU y43.Color.Red, vU y43.Color.Green, vU y43.Color.Blue, vU y43.Color.Alpha, vK (yg29 32 0) 1, vK g16 3, vF], [])) hi rfl), (fun _ _ _ _ => ⟨rfl, rfl⟩), (fun _ i g hi => lcG [36] (fun yg29 => (vK (yg29 36 0) 1, [eO 9 tS kL0 (yg29 36 0)])) hi rfl), (fun _ _ _ _ => ⟨rfl, rfl⟩), (fun _ i g hi => lcG [36] (fun yg29 => (vG [vS [109, 97, 114, 103, 105, 110, 45, 98, 111, 116, 116, 111, 109], vF, vU y46.Kind, vS y46.Word, vI y46.Num, vU y46.Color.Red, vU y46.Color.Green, vU y46.Color.Blue, vU y46.Color.Alpha, vK (yg29 36 0) 1, vK g16 3, vF], [])) hi rfl), (fun _ _ _ _ => ⟨rfl, rfl⟩), (fun _ i g hi => lcG [40] (fun yg29 => (vK (yg29 40 0) 1, [eO 9 tS kL0 (yg29 40 0)])) hi rfl), (fun _ _ _ _ => ⟨rfl, rfl⟩), (fun _ i g hi => lcG [40] (fun yg29 => (vG [vS [109, 97, 114, 103, 105, 110, 45, 108, 101, 102, 116], vF, vU y49.Kind, vS y49.Word, vI y49.Num, vU y49.Color.Red, vU y49.Color.Green, vU y49.Color.Blue, vU y49.Color.Alpha, vK (yg29 40 0) 1, vK g16 3, vF], [])) hi rfl), (fun _ _ _ _ => ⟨rfl, rfl⟩), (fun _ _ _ _ => ⟨rfl, rfl⟩), (fun _ _ _ _ => ⟨rfl, rfl⟩), (fun _ _ _ _ => ⟨rfl, rfl⟩), (fun _ i g hi => lcG [47] (fun yg29 => (vK (yg29 47 0) 1, [eO 9 tS kL4 (yg29 47 0)])) hi rfl), (fun _ i g hi => lcG [48] (fun yg29 => (vK (yg29 48 0) 0, [eO 5 (tI .u8) ([] : List Int) (yg29 48 0)])) hi rfl), (fun _ _ _ _ => ⟨rfl, rfl⟩), (fun _ i g hi => lcG [50] (fun yg29 => (.slice (yg29 50 0).a q59.length (yg29 50 0).c, [eO 5 (tI .u8) q59 (yg29 50 0)])) hi rfl), (fun _ i g hi => lcG [51] (fun yg29 => (vK (yg29 51 0) 1, [eO 5 (tI .u8) ([5] : List Int) (yg29 51 0)])) hi rfl), (fun _ i g hi => lcG [52] (fun yg29 => (.slice (yg29 52 0).a q64.length (yg29 52 0).c, [eO 5 (tI .u8) q64 (yg29 52 0)])) hi rfl), (fun _ i g hi => lcG [47, 52] (fun yg29 => (vG [vS [108, 105, 110, 101, 45, 104, 101, 105, 103, 104, 116], vT, vU y53.Kind, vS y53.Word, vI y53.Num, vU y53.Color.Red, vU y53.Color.Green, vU y53.Color.Blue, vU y53.Color.Alpha, vK (yg29 47 0) 1, .slice (yg29 52 0).a q64.length (yg29 52 0).c, vT], [])) hi rfl), (fun _ _ _ _ => ⟨rfl, rfl⟩), (fun _ i g hi => lcG [55] (fun yg29 => (vK (yg29 55 0) 4, [eO 9 tS kL5 (yg29 55 0)])) hi rfl), (fun _ i g hi => lcG [55] (fun yg29 => (vG [vS [116, 101, 120, 116, 45, 97, 108, 105, 103, 110], vT, vU y66.Kind, vS y66.Word, vI y66.Num, vU y66.Color.Red, vU y66.Color.Green, vU y66.Color.Blue, vU y66.Color.Alpha, vK (yg29 55 0) 4, vO, vF], [])) hi rfl), (fun _ _ _ _ => ⟨rfl, rfl⟩), (fun _ i g hi => lcG [58] (fun yg29 => (vK (yg29 58 0) 1, [eO 5 (tI .u8) ([5] : List Int) (yg29 58 0)])) hi rfl), (fun _ i g hi => lcG [58] (fun yg29 => (vG [vS [111, 112, 97, 99, 105, 116, 121], vF, vU 5, vN, vI 1000, vU 0, vU 0, vU 0, vU 0, vO, vK (yg29 58 0) 1, vF], [])) hi rfl), (fun _ _ _ _ => ⟨rfl, rfl⟩), (fun _ i g hi => lcG [61] (fun yg29 => (vK (yg29 61 0) 1, [eO 9 tS kL0 (yg29 61 0)])) hi rfl), (fun _ i g hi => lcG [62] (fun yg29 => (vK (yg29 62 0) 1, [eO 5 (tI .u8) ([6] : List Int) (yg29 62 0)])) hi rfl), (fun _ i g hi => lcG [61, 62] (fun yg29 => (vG [vS [122, 45, 105, 110, 100, 101, 120], vF, vU 1, vS [97, 117, 116, 111], vI 0, vU 0, vU 0, vU 0, vU 0, vK (yg29 61 0) 1, vK (yg29 62 0) 1, vF], [])) hi rfl), (fun _ _ _ _ => ⟨rfl, rfl⟩), (fun _ i g hi => lcG [65] (fun yg29 => (vK (yg29 65 0) 1, [eO 5 (tI .u8) ([6] : List Int) (yg29 65 0)])) hi rfl), (fun _ i g hi => lcG [65] (fun yg29 => (vG [vS [111, 114, 100, 101, 114], vF, vU 6, vN, vI 0, vU 0, vU 0, vU 0, vU 0, vO, vK (yg29 65 0) 1, vF], [])) hi rfl), (fun _ i g hi => lcG [14, 17, 20, 24, 28, 32, 36, 40, 47, 52, 55, 58, 61, 62, 65, 67] (fun yg29 => (vK (yg29 67 0) 18, [eO 100 tyProp ([(TProp.mk [99, 111, 108, 111, 114] true (TVal.mk 7 [] 0 (TColor.mk 0 0 0 255)) [] ([7, 8] : List Int) false), (TProp.mk [98, 97, 99, 107, 103, 114, 111, 117, 110, 100, 45, 99, 111, 108, 111, 114] false (TVal.mk 7 [] 0 (TColor.mk 0 0 0 0)) [] ([7, 8] : List Int) false), (TProp.mk [98, 111, 114, 100, 101, 114, 45, 99, 111, 108, 111, 114] false (TVal.mk 8 [] 0 (TColor.mk 0 0 0 0)) [] ([7, 8] : List Int) false), (TProp.mk [111, 117, 116, 108, 105, 110, 101, 45, 99, 111, 108, 111, 114] false (TVal.mk 8 [] 0 (TColor.mk 0 0 0 0)) [] ([7, 8] : List Int) false), (TProp.mk [100, 105, 115, 112, 108, 97, 121] false y30 kL2 [] false), (TProp.mk [118, 105, 115, 105, 98, 105, 108, 105, 116, 121] true y33 kL3 [] false), (TProp.mk [119, 105, 100, 116, 104] false (TVal.mk 1 [97, 117, 116, 111] 0 (TColor.mk 0 0 0 0)) kL0 kL1 true), (TProp.mk [104, 101, 105, 103, 104, 116] false (TVal.mk 1 [97, 117, 116, 111] 0 (TColor.mk 0 0 0 0)) kL0 kL1 true), (TProp.mk [109, 97, 114, 103, 105, 110, 45, 116, 111, 112] false y40 kL0 kL1 false), (TProp.mk [109, 97, 114, 103, 105, 110, 45, 114, 105, 103, 104, 116] false y43 kL0 kL1 false), (TProp.mk [109, 97, 114, 103, 105, 110, 45, 98, 111, 116, 116, 111, 109] false y46 kL0 kL1 false), (TProp.mk [109, 97, 114, 103, 105, 110, 45, 108, 101, 102, 116] false y49 kL0 kL1 false), (TProp.mk [102, 111, 110, 116, 45, 115, 105, 122, 101] true y52 [] kL1 true), (TProp.mk [108, 105, 110, 101, 45, 104, 101, 105, 103, 104, 116] true y53 kL4 q64 true), (TProp.mk [116, 101, 120, 116, 45, 97, 108, 105, 103, 110] true y66 kL5 [] false), (TProp.mk [111, 112, 97, 99, 105, 116, 121] false (TVal.mk 5 [] 1000 (TColor.mk 0 0 0 0)) [] ([5] : List Int) false), (TProp.mk [122, 45, 105, 110, 100, 101, 120] false (TVal.mk 1 [97, 117, 116, 111] 0 (TColor.mk 0 0 0 0)) kL0 ([6] : List Int) false), (TProp.mk [111, 114, 100, 101, 114] false (TVal.mk 6 [] 0 (TColor.mk 0 0 0 0)) [] ([6] : List Int) false)] : List TProp) (yg29 67 0), eI (tI .u8) ([6] : List Int) (yg29 65 0), eI (tI .u8) ([6] : List Int) (yg29 62 0), eI tS kL0 (yg29 61 0), eI (tI .u8) ([5] : List Int) (yg29 58 0), eI tS kL5 (yg29 55 0), eI (tI .u8) q64 (yg29 52 0), eI tS kL4 (yg29 47 0), eI tS kL0 (yg29 40 0), eI tS kL0 (yg29 36 0), eI tS kL0 (yg29 32 0), eI tS kL0 (yg29 28 0), eI tS kL0 (yg29 24 0), eI (tI .u8) kL1 (yg29 67 1), eI tS kL0 (yg29 20 0), eI tS kL3 (yg29 17 0), eI tS kL2 (yg29 14 0), eI (tI .u8) ([7, 8] : List Int) (yg29 67 2)])) hi rfl), (fun _ i g hi => lcG [67] (fun yg29 => (vK (yg29 67 0) 18, [])) hi rfl), trivial⟩
 case hstep_yg29 =>
  refine ⟨?_, ?_, ?_, ?_, ?_, ?_, ?_, ?_, ?_, ?_, ?_, ?_, ?_, ?_, ?_, ?_, ?_, ?_, ?_, ?_, ?_, ?_, ?_, ?_, ?_, ?_, ?_, ?_, ?_, ?_, ?_, ?_, ?_, ?_, ?_, ?_, ?_, ?_, ?_, ?_, ?_, ?_, ?_, ?_, ?_, ?_, ?_, ?_, ?_, ?_, ?_, ?_, ?_, ?_, ?_, ?_, ?_, ?_, ?_, ?_, ?_, ?_, ?_, ?_, ?_, ?_, ?_, ?_, ?_, trivial⟩
  ·intro o ho a w yg29 M Hb hv hO hS
   obtain rfl := someE ho
   exact Stp.mono (o_evs [] (vG [vU 0, vU 0, vU 0, vU 255]) none [] Hb rfl (by kernel_rfl) (fun q e => by cases e)) fun _ _ hq => ⟨gL [], fun _ _ => hq.1, (hS.below hq.2.below).sel [] rfl⟩
  ·intro o ho a w yg29 M Hb hv hO hS
   obtain rfl := someE ho
   exact Stp.mono (o_evs [] (vG [vU 7, vN, vI 0, vU 0, vU 0, vU 0, vU 255]) none [] ((Hb).add (hv 0 (by decide) (by decide) 9 rfl)) rfl (by kernel_rfl) (fun q e => by cases e)) fun _ _ hq => ⟨gL [], fun _ _ => hq.1, (hS.below hq.2.below).sel [] rfl⟩
  ·intro o ho a w yg29 M Hb hv hO hS
   obtain rfl := someE ho
   exact Stp.mono (o_evs [] (vK g10 2) none [] Hb rfl (by kernel_rfl) (fun q e => by cases e)) fun _ _ hq => ⟨gL [], fun _ _ => hq.1, (hS.below hq.2.below).sel [] rfl⟩
  ·intro o ho a w yg29 M Hb hv hO hS
   obtain rfl := someE ho
   exact Stp.mono (o_evs [] (vG [vS [99, 111, 108, 111, 114], vT, vU 7, vN, vI 0, vU 0, vU 0, vU 0, vU 255, vO, vK g10 2, vF]) none [] (((Hb).add (hv 1 (by decide) (by decide) 10 rfl)).add (hv 2 (by decide) (by decide) 11 rfl)) rfl (by kernel_rfl) (fun q e => by cases e)) fun _ _ hq => ⟨gL [], fun _ _ => hq.1, (hS.below hq.2.below).sel [0] rfl⟩
  ·intro o ho a w yg29 M Hb hv hO hS
   obtain rfl := someE ho
   exact Stp.mono (o_evs [] (vG [vU 7, vN, vI 0, vU 0, vU 0, vU 0, vU 0]) none [] Hb rfl (by kernel_rfl) (fun q e => by cases e)) fun _ _ hq => ⟨gL [], fun _ _ => hq.1, (hS.below hq.2.below).sel [] rfl⟩
  ·intro o ho a w yg29 M Hb hv hO hS
   obtain rfl := someE ho
   exact Stp.mono (o_evs [] (vK g10 2) none [] Hb rfl (by kernel_rfl) (fun q e => by cases e)) fun _ _ hq => ⟨gL [], fun _ _ => hq.1, (hS.below hq.2.below).sel [] rfl⟩
  ·intro o ho a w yg29 M Hb hv hO hS
   obtain rfl := someE ho
   exact Stp.mono (o_evs [] (vG [vS [98, 97, 99, 107, 103, 114, 111, 117, 110, 100, 45, 99, 111, 108, 111, 114], vF, vU 7, vN, vI 0, vU 0, vU 0, vU 0, vU 0, vO, vK g10 2, vF]) none [] (((Hb).add (hv 4 (by decide) (by decide) 13 rfl)).add (hv 5 (by decide) (by decide) 14 rfl)) rfl (by kernel_rfl) (fun q e => by cases e)) fun _ _ hq => ⟨gL [], fun _ _ => hq.1, (hS.below hq.2.below).sel [0] rfl⟩
  ·intro o ho a w yg29 M Hb hv hO hS
   obtain rfl := someE ho
   exact Stp.mono (o_evs [(vG [vU 8, vN, vI 0, vU 0, vU 0, vU 0, vU 0])] (vG [vU 8, vN, vI 0, vU 0, vU 0, vU 0, vU 0]) (some (rN b5 0 [vU 8, vN, vI 0, vU 0, vU 0, vU 0, vU 0])) [] Hb rfl (by kernel_rfl) (fun q e => by cases e; exact ((hS.bk 0 rfl).atD rfl))) fun _ _ hq => ⟨gL [], fun _ _ => hq.1, (hS.below hq.2.below).sel [0] rfl⟩
  ·intro o ho a w yg29 M Hb hv hO hS
   obtain rfl := someE ho
   exact Stp.mono (o_evs [] (vK g10 2) none [] Hb rfl (by kernel_rfl) (fun q e => by cases e)) fun _ _ hq => ⟨gL [], fun _ _ => hq.1, (hS.below hq.2.below).sel [] rfl⟩
  ·intro o ho a w yg29 M Hb hv hO hS
   obtain rfl := someE ho
   exact Stp.mono (o_evs [] (vG [vS [98, 111, 114, 100, 101, 114, 45, 99, 111, 108, 111, 114], vF, vU 8, vN, vI 0, vU 0, vU 0, vU 0, vU 0, vO, vK g10 2, vF]) none [] (((Hb).add (hv 7 (by decide) (by decide) 16 rfl)).add (hv 8 (by decide) (by decide) 17 rfl)) rfl (by kernel_rfl) (fun q e => by cases e)) fun _ _ hq => ⟨gL [], fun _ _ => hq.1, (hS.below hq.2.below).sel [0] rfl⟩
  ·intro o ho a w yg29 M Hb hv hO hS
   obtain rfl := someE ho
   exact Stp.mono (o_evs [(vG [vU 8, vN, vI 0, vU 0, vU 0, vU 0, vU 0])] (vG [vU 8, vN, vI 0, vU 0, vU 0, vU 0, vU 0]) (some (rN b5 0 [vU 8, vN, vI 0, vU 0, vU 0, vU 0, vU 0])) [] Hb rfl (by kernel_rfl) (fun q e => by cases e; exact ((hS.bk 0 rfl).atD rfl))) fun _ _ hq => ⟨gL [], fun _ _ => hq.1, (hS.below hq.2.below).sel [0] rfl⟩
  ·intro o ho a w yg29 M Hb hv hO hS
   obtain rfl := someE ho
   exact Stp.mono (o_evs [] (vK g10 2) none [] Hb rfl (by kernel_rfl) (fun q e => by cases e)) fun _ _ hq => ⟨gL [], fun _ _ => hq.1, (hS.below hq.2.below).sel [] rfl⟩
  ·intro o ho a w yg29 M Hb hv hO hS
   obtain rfl := someE ho
   exact Stp.mono (o_evs [] (vG [vS [111, 117, 116, 108, 105, 110, 101, 45, 99, 111, 108, 111, 114], vF, vU 8, vN, vI 0, vU 0, vU 0, vU 0, vU 0, vO, vK g10 2, vF]) none [] (((Hb).add (hv 10 (by decide) (by decide) 19 rfl)).add (hv 11 (by decide) (by decide) 20 rfl)) rfl (by kernel_rfl) (fun q e => by cases e)) fun _ _ hq => ⟨gL [], fun _ _ => hq.1, (hS.below hq.2.below).sel [0] rfl⟩
  ·intro o ho a w yg29 M Hb hv hO hS
   obtain rfl := someE ho
   exact Stp.mono (o_evs [(vG (cV y30))] (vG (cV y30)) (some (rB 80 [vS [105, 110, 108, 105, 110, 101]] (vG (cV y30)))) [] Hb rfl (by subst hy30; kernel_rfl) (fun q e => by cases e; exact ((by rw [hy30]; exact (r25_word_ok _).b)))) fun _ _ hq => ⟨gL [], fun _ _ => hq.1, (hS.below hq.2.below).sel [] rfl⟩
  ·intro o ho a w yg29 M Hb hv hO hS0
   obtain rfl := someE ho
   have H : Fr 77 ([] ++ (fS [1, 2, 3, 4] [vP b5, vK g10 2, vK g16 3, vP b24])) _ := Hb
   obtain ⟨X, hX⟩ : ∃ X, X = fpl [] := ⟨_, rfl⟩
   have hS : SH M X w [] w := by rw [hX]; exact hS0
   have hd := hS.hand [] [] rfl rfl
   refine Stp.mono (o_lit (T := tS) (E := 9) (zv := vN) [vS [98, 108, 111, 99, 107], vS [102, 108, 101, 120], vS [105, 110, 108, 105, 110, 101], vS [105, 110, 108, 105, 110, 101, 45, 98, 108, 111, 99, 107], vS [110, 111, 110, 101]] kL2 [gL [], gL [], gL [], gL [], gL []] _ H hd rfl (by kernel_rfl) (by kernel_rfl) (by kernel_rfl) (by kernel_rfl) (by kernel_rfl) (by kernel_rfl) (by kernel_rfl) rfl (InnL.cons trivial (InnL.cons trivial (InnL.cons trivial (InnL.cons trivial (InnL.cons trivial InnL.nil)))))) ?_
   rintro v w2 hq
   obtain ⟨g31, rfl, hq⟩ := hq
   replace hS : SH M X w [eO 9 tS kL2 g31] _ := hS.join [] [] rfl rfl hq
   clear hq
   rw [hX] at hS
   exact ⟨gL [g31], fun _ _ => rfl, hS.sel [0] rfl⟩
  ·intro o ho a w yg29 M Hb hv hO hS
   obtain rfl := someE ho
   exact Stp.mono (o_evs [] (vG [vS [100, 105, 115, 112, 108, 97, 121], vF, vU y30.Kind, vS y30.Word, vI y30.Num, vU y30.Color.Red, vU y30.Color.Green, vU y30.Color.Blue, vU y30.Color.Alpha, vK (yg29 14 0) 5, vO, vF]) none [] (((Hb).add (hv 13 (by decide) (by decide) 22 rfl)).add (hv 14 (by decide) (by decide) 23 rfl)) rfl (by kernel_rfl) (fun q e => by cases e)) fun _ _ hq => ⟨gL [], fun _ _ => hq.1, (hS.below hq.2.below).sel [0] rfl⟩
  ·intro o ho a w yg29 M Hb hv hO hS
   obtain rfl := someE ho
   exact Stp.mono (o_evs [(vG (cV y33))] (vG (cV y33)) (some (rB 80 [vS [118, 105, 115, 105, 98, 108, 101]] (vG (cV y33)))) [] Hb rfl (by subst hy33; kernel_rfl) (fun q e => by cases e; exact ((by rw [hy33]; exact (r25_word_ok _).b)))) fun _ _ hq => ⟨gL [], fun _ _ => hq.1, (hS.below hq.2.below).sel [] rfl⟩
  ·intro o ho a w yg29 M Hb hv hO hS0
   obtain rfl := someE ho
   have H : Fr 77 ([] ++ (fS [1, 2, 3, 4] [vP b5, vK g10 2, vK g16 3, vP b24])) _ := Hb
   obtain ⟨X, hX⟩ : ∃ X, X = fpl [] := ⟨_, rfl⟩
   have hS : SH M X w [] w := by rw [hX]; exact hS0
   have hd := hS.hand [] [] rfl rfl
   refine Stp.mono (o_lit (T := tS) (E := 9) (zv := vN) [vS [99, 111, 108, 108, 97, 112, 115, 101], vS [104, 105, 100, 100, 101, 110], vS [118, 105, 115, 105, 98, 108, 101]] kL3 [gL [], gL [], gL []] _ H hd rfl (by kernel_rfl) (by kernel_rfl) (by kernel_rfl) (by kernel_rfl) (by kernel_rfl) (by kernel_rfl) (by kernel_rfl) rfl (InnL.cons trivial (InnL.cons trivial (InnL.cons trivial InnL.nil)))) ?_
   rintro v w2 hq
   obtain ⟨g34, rfl, hq⟩ := hq
   replace hS : SH M X w [eO 9 tS kL3 g34] _ := hS.join [] [] rfl rfl hq
   clear hq
   rw [hX] at hS
   exact ⟨gL [g34], fun _ _ => rfl, hS.sel [0] rfl⟩
  ·intro o ho a w yg29 M Hb hv hO hS
   obtain rfl := someE ho
   exact Stp.mono (o_evs [] (vG [vS [118, 105, 115, 105, 98, 105, 108, 105, 116, 121], vT, vU y33.Kind, vS y33.Word, vI y33.Num, vU y33.Color.Red, vU y33.Color.Green, vU y33.Color.Blue, vU y33.Color.Alpha, vK (yg29 17 0) 3, vO, vF]) none [] (((Hb).add (hv 16 (by decide) (by decide) 25 rfl)).add (hv 17 (by decide) (by decide) 26 rfl)) rfl (by kernel_rfl) (fun q e => by cases e)) fun _ _ hq => ⟨gL [], fun _ _ => hq.1, (hS.below hq.2.below).sel [0] rfl⟩
  ·intro o ho a w yg29 M Hb hv hO hS
   obtain rfl := someE ho
   exact Stp.mono (o_evs [(vG [vU 1, vS [97, 117, 116, 111], vI 0, vU 0, vU 0, vU 0, vU 0])] (vG [vU 1, vS [97, 117, 116, 111], vI 0, vU 0, vU 0, vU 0, vU 0]) (some (fun wz => V.atN b24 0 [vU 1, vS [97, 117, 116, 111], vI 0, vU 0, vU 0, vU 0, vU 0] 0 wz)) [] Hb rfl (by kernel_rfl) (fun q e => by cases e; exact ((hS.bk 0 rfl).atD rfl))) fun _ _ hq => ⟨gL [], fun _ _ => hq.1, (hS.below hq.2.below).sel [0] rfl⟩
  ·intro o ho a w yg29 M Hb hv hO hS0
   obtain rfl := someE ho
   have H : Fr 77 ([] ++ (fS [1, 2, 3, 4] [vP b5, vK g10 2, vK g16 3, vP b24])) _ := Hb
   obtain ⟨X, hX⟩ : ∃ X, X = fpl [] := ⟨_, rfl⟩
   have hS : SH M X w [] w := by rw [hX]; exact hS0
   have hd := hS.hand [] [] rfl rfl
   refine Stp.mono (o_lit (T := tS) (E := 9) (zv := vN) [vS [97, 117, 116, 111]] kL0 [gL []] _ H hd rfl (by kernel_rfl) (by kernel_rfl) (by kernel_rfl) (by kernel_rfl) (by kernel_rfl) (by kernel_rfl) (by kernel_rfl) rfl (InnL.cons trivial InnL.nil)) ?_
   rintro v w2 hq
   obtain ⟨g36, rfl, hq⟩ := hq
   replace hS : SH M X w [eO 9 tS kL0 g36] _ := hS.join [] [] rfl rfl hq
   clear hq
   rw [hX] at hS
   exact ⟨gL [g36], fun _ _ => rfl, hS.sel [0] rfl⟩
  ·intro o ho a w yg29 M Hb hv hO hS
   obtain rfl := someE ho
   exact Stp.mono (o_evs [] (vK g16 3) none [] Hb rfl (by kernel_rfl) (fun q e => by cases e)) fun _ _ hq => ⟨gL [], fun _ _ => hq.1, (hS.below hq.2.below).sel [] rfl⟩
  ·intro o ho a w yg29 M Hb hv hO hS
   obtain rfl := someE ho
   exact Stp.mono (o_evs [] (vG [vS [119, 105, 100, 116, 104], vF, vU 1, vS [97, 117, 116, 111], vI 0, vU 0, vU 0, vU 0, vU 0, vK (yg29 20 0) 1, vK g16 3, vT]) none [] ((((Hb).add (hv 19 (by decide) (by decide) 28 rfl)).add (hv 20 (by decide) (by decide) 29 rfl)).add (hv 21 (by decide) (by decide) 30 rfl)) rfl (by kernel_rfl) (fun q e => by cases e)) fun _ _ hq => ⟨gL [], fun _ _ => hq.1, (hS.below hq.2.below).sel [0, 1] rfl⟩
  ·intro o ho a w yg29 M Hb hv hO hS
   obtain rfl := someE ho
   exact Stp.mono (o_evs [(vG [vU 1, vS [97, 117, 116, 111], vI 0, vU 0, vU 0, vU 0, vU 0])] (vG [vU 1, vS [97, 117, 116, 111], vI 0, vU 0, vU 0, vU 0, vU 0]) (some (fun wz => V.atN b24 0 [vU 1, vS [97, 117, 116, 111], vI 0, vU 0, vU 0, vU 0, vU 0] 0 wz)) [] Hb rfl (by kernel_rfl) (fun q e => by cases e; exact ((hS.bk 0 rfl).atD rfl))) fun _ _ hq => ⟨gL [], fun _ _ => hq.1, (hS.below hq.2.below).sel [0] rfl⟩
  ·intro o ho a w yg29 M Hb hv hO hS0
   obtain rfl := someE ho
   have H : Fr 77 ([] ++ (fS [1, 2, 3, 4] [vP b5, vK g10 2, vK g16 3, vP b24])) _ := Hb
   obtain ⟨X, hX⟩ : ∃ X, X = fpl [] := ⟨_, rfl⟩
   have hS : SH M X w [] w := by rw [hX]; exact hS0
   have hd := hS.hand [] [] rfl rfl
   refine Stp.mono (o_lit (T := tS) (E := 9) (zv := vN) [vS [97, 117, 116, 111]] kL0 [gL []] _ H hd rfl (by kernel_rfl) (by kernel_rfl) (by kernel_rfl) (by kernel_rfl) (by kernel_rfl) (by kernel_rfl) (by kernel_rfl) rfl (InnL.cons trivial InnL.nil)) ?_
   rintro v w2 hq
   obtain ⟨g38, rfl, hq⟩ := hq
   replace hS : SH M X w [eO 9 tS kL0 g38] _ := hS.join [] [] rfl rfl hq
   clear hq
   rw [hX] at hS
   exact ⟨gL [g38], fun _ _ => rfl, hS.sel [0] rfl⟩
  ·intro o ho a w yg29 M Hb hv hO hS
   obtain rfl := someE ho
   exact Stp.mono (o_evs [] (vK g16 3) none [] Hb rfl (by kernel_rfl) (fun q e => by cases e)) fun _ _ hq => ⟨gL [], fun _ _ => hq.1, (hS.below hq.2.below).sel [] rfl⟩
  ·intro o ho a w yg29 M Hb hv hO hS
   obtain rfl := someE ho
   exact Stp.mono (o_evs [] (vG [vS [104, 101, 105, 103, 104, 116], vF, vU 1, vS [97, 117, 116, 111], vI 0, vU 0, vU 0, vU 0, vU 0, vK (yg29 24 0) 1, vK g16 3, vT]) none [] ((((Hb).add (hv 23 (by decide) (by decide) 32 rfl)).add (hv 24 (by decide) (by decide) 33 rfl)).add (hv 25 (by decide) (by decide) 34 rfl)) rfl (by kernel_rfl) (fun q e => by cases e)) fun _ _ hq => ⟨gL [], fun _ _ => hq.1, (hS.below hq.2.below).sel [0, 1] rfl⟩
  ·intro o ho a w yg29 M Hb hv hO hS
   obtain rfl := someE ho
   exact Stp.mono (o_evs [(vG (cV y40))] (vG (cV y40)) (some (rB 81 [vI 0] (vG (cV y40)))) [] Hb rfl (by subst hy40; kernel_rfl) (fun q e => by cases e; exact ((by rw [hy40]; exact (r25_px_ok _).b)))) fun _ _ hq => ⟨gL [], fun _ _ => hq.1, (hS.below hq.2.below).sel [] rfl⟩
  ·intro o ho a w yg29 M Hb hv hO hS0
   obtain rfl := someE ho
   have H : Fr 77 ([] ++ (fS [1, 2, 3, 4] [vP b5, vK g10 2, vK g16 3, vP b24])) _ := Hb
   obtain ⟨X, hX⟩ : ∃ X, X = fpl [] := ⟨_, rfl⟩
   have hS : SH M X w [] w := by rw [hX]; exact hS0
   have hd := hS.hand [] [] rfl rfl
   refine Stp.mono (o_lit (T := tS) (E := 9) (zv := vN) [vS [97, 117, 116, 111]] kL0 [gL []] _ H hd rfl (by kernel_rfl) (by kernel_rfl) (by kernel_rfl) (by kernel_rfl) (by kernel_rfl) (by kernel_rfl) (by kernel_rfl) rfl (InnL.cons trivial InnL.nil)) ?_
   rintro v w2 hq
   obtain ⟨g41, rfl, hq⟩ := hq
   replace hS : SH M X w [eO 9 tS kL0 g41] _ := hS.join [] [] rfl rfl hq
   clear hq
   rw [hX] at hS
   exact ⟨gL [g41], fun _ _ => rfl, hS.sel [0] rfl⟩
  ·intro o ho a w yg29 M Hb hv hO hS
   obtain rfl := someE ho
   exact Stp.mono (o_evs [] (vK g16 3) none [] Hb rfl (by kernel_rfl) (fun q e => by cases e)) fun _ _ hq => ⟨gL [], fun _ _ => hq.1, (hS.below hq.2.below).sel [] rfl⟩
  ·intro o ho a w yg29 M Hb hv hO hS
   obtain rfl := someE ho
   exact Stp.mono (o_evs [] (vG [vS [109, 97, 114, 103, 105, 110, 45, 116, 111, 112], vF, vU y40.Kind, vS y40.Word, vI y40.Num, vU y40.Color.Red, vU y40.Color.Green, vU y40.Color.Blue, vU y40.Color.Alpha, vK (yg29 28 0) 1, vK g16 3, vF]) none [] ((((Hb).add (hv 27 (by decide) (by decide) 36 rfl)).add (hv 28 (by decide) (by decide) 37 rfl)).add (hv 29 (by decide) (by decide) 38 rfl)) rfl (by kernel_rfl) (fun q e => by cases e)) fun _ _ hq => ⟨gL [], fun _ _ => hq.1, (hS.below hq.2.below).sel [0, 1] rfl⟩
  ·intro o ho a w yg29 M Hb hv hO hS
   obtain rfl := someE ho
   exact Stp.mono (o_evs [(vG (cV y43))] (vG (cV y43)) (some (rB 81 [vI 0] (vG (cV y43)))) [] Hb rfl (by subst hy43; kernel_rfl) (fun q e => by cases e; exact ((by rw [hy43]; exact (r25_px_ok _).b)))) fun _ _ hq => ⟨gL [], fun _ _ => hq.1, (hS.below hq.2.below).sel [] rfl⟩
  ·intro o ho a w yg29 M Hb hv hO hS0
   obtain rfl := someE ho
   have H : Fr 77 ([] ++ (fS [1, 2, 3, 4] [vP b5, vK g10 2, vK g16 3, vP b24])) _ := Hb
   obtain ⟨X, hX⟩ : ∃ X, X = fpl [] := ⟨_, rfl⟩
   have hS : SH M X w [] w := by rw [hX]; exact hS0
   have hd := hS.hand [] [] rfl rfl
   refine Stp.mono (o_lit (T := tS) (E := 9) (zv := vN) [vS [97, 117, 116, 111]] kL0 [gL []] _ H hd rfl (by kernel_rfl) (by kernel_rfl) (by kernel_rfl) (by kernel_rfl) (by kernel_rfl) (by kernel_rfl) (by kernel_rfl) rfl (InnL.cons trivial InnL.nil)) ?_
   rintro v w2 hq
   obtain ⟨g44, rfl, hq⟩ := hq
   replace hS : SH M X w [eO 9 tS kL0 g44] _ := hS.join [] [] rfl rfl hq
   clear hq
   rw [hX] at hS
   exact ⟨gL [g44], fun _ _ => rfl, hS.sel [0] rfl⟩
  ·intro o ho a w yg29 M Hb hv hO hS
   obtain rfl := someE ho
   exact Stp.mono (o_evs [] (vK g16 3) none [] Hb rfl (by kernel_rfl) (fun q e => by cases e)) fun _ _ hq => ⟨gL [], fun _ _ => hq.1, (hS.below hq.2.below).sel [] rfl⟩
  ·intro o ho a w yg29 M Hb hv hO hS
   obtain rfl := someE ho
   exact Stp.mono (o_evs [] (vG [vS [109, 97, 114, 103, 105, 110, 45, 114, 105, 103, 104, 116], vF, vU y43.Kind, vS y43.Word, vI y43.Num, vU y43.Color.Red, vU y43.Color.Green, vU y43.Color.Blue, vU y43.Color.Alpha, vK (yg29 32 0) 1, vK g16 3, vF]) none [] ((((Hb).add (hv 31 (by decide) (by decide) 40 rfl)).add (hv 32 (by decide) (by decide) 41 rfl)).add (hv 33 (by decide) (by decide) 42 rfl)) rfl (by kernel_rfl) (fun q e => by cases e)) fun _ _ hq => ⟨gL [], fun _ _ => hq.1, (hS.below hq.2.below).sel [0, 1] rfl⟩
  ·intro o ho a w yg29 M Hb hv hO hS
   obtain rfl := someE ho
   exact Stp.mono (o_evs [(vG (cV y46))] (vG (cV y46)) (some (rB 81 [vI 0] (vG (cV y46)))) [] Hb rfl (by subst hy46; kernel_rfl) (fun q e => by cases e; exact ((by rw [hy46]; exact (r25_px_ok _).b)))) fun _ _ hq => ⟨gL [], fun _ _ => hq.1, (hS.below hq.2.below).sel [] rfl⟩
  ·intro o ho a w yg29 M Hb hv hO hS0
   obtain rfl := someE ho
   have H : Fr 77 ([] ++ (fS [1, 2, 3, 4] [vP b5, vK g10 2, vK g16 3, vP b24])) _ := Hb
   obtain ⟨X, hX⟩ : ∃ X, X = fpl [] := ⟨_, rfl⟩
   have hS : SH M X w [] w := by rw [hX]; exact hS0
   have hd := hS.hand [] [] rfl rfl
   refine Stp.mono (o_lit (T := tS) (E := 9) (zv := vN) [vS [97, 117, 116, 111]] kL0 [gL []] _ H hd rfl (by kernel_rfl) (by kernel_rfl) (by kernel_rfl) (by kernel_rfl) (by kernel_rfl) (by kernel_rfl) (by kernel_rfl) rfl (InnL.cons trivial InnL.nil)) ?_
   rintro v w2 hq
   obtain ⟨g47, rfl, hq⟩ := hq
   replace hS : SH M X w [eO 9 tS kL0 g47] _ := hS.join [] [] rfl rfl hq
   clear hq
   rw [hX] at hS
   exact ⟨gL [g47], fun _ _ => rfl, hS.sel [0] rfl⟩
  ·intro o ho a w yg29 M Hb hv hO hS
   obtain rfl := someE ho
   exact Stp.mono (o_evs [] (vK g16 3) none [] Hb rfl (by kernel_rfl) (fun q e => by cases e)) fun _ _ hq => ⟨gL [], fun _ _ => hq.1, (hS.below hq.2.below).sel [] rfl⟩
  ·intro o ho a w yg29 M Hb hv hO hS
   obtain rfl := someE ho
   exact Stp.mono (o_evs [] (vG [vS [109, 97, 114, 103, 105, 110, 45, 98, 111, 116, 116, 111, 109], vF, vU y46.Kind, vS y46.Word, vI y46.Num, vU y46.Color.Red, vU y46.Color.Green, vU y46.Color.Blue, vU y46.Color.Alpha, vK (yg29 36 0) 1, vK g16 3, vF]) none [] ((((Hb).add (hv 35 (by decide) (by decide) 44 rfl)).add (hv 36 (by decide) (by decide) 45 rfl)).add (hv 37 (by decide) (by decide) 46 rfl)) rfl (by kernel_rfl) (fun q e => by cases e)) fun _ _ hq => ⟨gL [], fun _ _ => hq.1, (hS.below hq.2.below).sel [0, 1] rfl⟩
  ·intro o ho a w yg29 M Hb hv hO hS
   obtain rfl := someE ho
   exact Stp.mono (o_evs [(vG (cV y49))] (vG (cV y49)) (some (rB 81 [vI 0] (vG (cV y49)))) [] Hb rfl (by subst hy49; kernel_rfl) (fun q e => by cases e; exact ((by rw [hy49]; exact (r25_px_ok _).b)))) fun _ _ hq => ⟨gL [], fun _ _ => hq.1, (hS.below hq.2.below).sel [] rfl⟩
  ·intro o ho a w yg29 M Hb hv hO hS0
   obtain rfl := someE ho
   have H : Fr 77 ([] ++ (fS [1, 2, 3, 4] [vP b5, vK g10 2, vK g16 3, vP b24])) _ := Hb
   obtain ⟨X, hX⟩ : ∃ X, X = fpl [] := ⟨_, rfl⟩
   have hS : SH M X w [] w := by rw [hX]; exact hS0
   have hd := hS.hand [] [] rfl rfl
   refine Stp.mono (o_lit (T := tS) (E := 9) (zv := vN) [vS [97, 117, 116, 111]] kL0 [gL []] _ H hd rfl (by kernel_rfl) (by kernel_rfl) (by kernel_rfl) (by kernel_rfl) (by kernel_rfl) (by kernel_rfl) (by kernel_rfl) rfl (InnL.cons trivial InnL.nil)) ?_
   rintro v w2 hq
   obtain ⟨g50, rfl, hq⟩ := hq
   replace hS : SH M X w [eO 9 tS kL0 g50] _ := hS.join [] [] rfl rfl hq
   clear hq
   rw [hX] at hS
   exact ⟨gL [g50], fun _ _ => rfl, hS.sel [0] rfl⟩
  ·intro o ho a w yg29 M Hb hv hO hS
   obtain rfl := someE ho
   exact Stp.mono (o_evs [] (vK g16 3) none [] Hb rfl (by kernel_rfl) (fun q e => by cases e)) fun _ _ hq => ⟨gL [], fun _ _ => hq.1, (hS.below hq.2.below).sel [] rfl⟩
  ·intro o ho a w yg29 M Hb hv hO hS
   obtain rfl := someE ho
   exact Stp.mono (o_evs [] (vG [vS [109, 97, 114, 103, 105, 110, 45, 108, 101, 102, 116], vF, vU y49.Kind, vS y49.Word, vI y49.Num, vU y49.Color.Red, vU y49.Color.Green, vU y49.Color.Blue, vU y49.Color.Alpha, vK (yg29 40 0) 1, vK g16 3, vF]) none [] ((((Hb).add (hv 39 (by decide) (by decide) 48 rfl)).add (hv 40 (by decide) (by decide) 49 rfl)).add (hv 41 (by decide) (by decide) 50 rfl)) rfl (by kernel_rfl) (fun q e => by cases e)) fun _ _ hq => ⟨gL [], fun _ _ => hq.1, (hS.below hq.2.below).sel [0, 1] rfl⟩
  ·intro o ho a w yg29 M Hb hv hO hS
   obtain rfl := someE ho
   exact Stp.mono (o_evs [(vG (cV y52))] (vG (cV y52)) (some (rB 81 [vI 16000] (vG (cV y52)))) [] Hb rfl (by subst hy52; kernel_rfl) (fun q e => by cases e; exact ((by rw [hy52]; exact (r25_px_ok _).b)))) fun _ _ hq => ⟨gL [], fun _ _ => hq.1, (hS.below hq.2.below).sel [] rfl⟩
  ·intro o ho a w yg29 M Hb hv hO hS
   obtain rfl := someE ho
   exact Stp.mono (o_evs [] (vK g16 3) none [] Hb rfl (by kernel_rfl) (fun q e => by cases e)) fun _ _ hq => ⟨gL [], fun _ _ => hq.1, (hS.below hq.2.below).sel [] rfl⟩
  ·intro o ho a w yg29 M Hb hv hO hS
   obtain rfl := someE ho
   exact Stp.mono (o_evs [] (vG [vS [102, 111, 110, 116, 45, 115, 105, 122, 101], vT, vU y52.Kind, vS y52.Word, vI y52.Num, vU y52.Color.Red, vU y52.Color.Green, vU y52.Color.Blue, vU y52.Color.Alpha, vO, vK g16 3, vT]) none [] (((Hb).add (hv 43 (by decide) (by decide) 52 rfl)).add (hv 44 (by decide) (by decide) 53 rfl)) rfl (by kernel_rfl) (fun q e => by cases e)) fun _ _ hq => ⟨gL [], fun _ _ => hq.1, (hS.below hq.2.below).sel [0] rfl⟩
  ·intro o ho a w yg29 M Hb hv hO hS
   obtain rfl := someE ho
   exact Stp.mono (o_evs [(vG (cV y53))] (vG (cV y53)) (some (rB 80 [vS [110, 111, 114, 109, 97, 108]] (vG (cV y53)))) [] Hb rfl (by subst hy53; kernel_rfl) (fun q e => by cases e; exact ((by rw [hy53]; exact (r25_word_ok _).b)))) fun _ _ hq => ⟨gL [], fun _ _ => hq.1, (hS.below hq.2.below).sel [] rfl⟩
  ·intro o ho a w yg29 M Hb hv hO hS0
   obtain rfl := someE ho
   have H : Fr 77 ([] ++ (fS [1, 2, 3, 4] [vP b5, vK g10 2, vK g16 3, vP b24])) _ := Hb
   obtain ⟨X, hX⟩ : ∃ X, X = fpl [] := ⟨_, rfl⟩
   have hS : SH M X w [] w := by rw [hX]; exact hS0
   have hd := hS.hand [] [] rfl rfl
   refine Stp.mono (o_lit (T := tS) (E := 9) (zv := vN) [vS [110, 111, 114, 109, 97, 108]] kL4 [gL []] _ H hd rfl (by kernel_rfl) (by kernel_rfl) (by kernel_rfl) (by kernel_rfl) (by kernel_rfl) (by kernel_rfl) (by kernel_rfl) rfl (InnL.cons trivial InnL.nil)) ?_
   rintro v w2 hq
   obtain ⟨g54, rfl, hq⟩ := hq
   replace hS : SH M X w [eO 9 tS kL4 g54] _ := hS.join [] [] rfl rfl hq
   clear hq
   rw [hX] at hS
   exact ⟨gL [g54], fun _ _ => rfl, hS.sel [0] rfl⟩
  ·intro o ho a w yg29 M Hb hv hO hS0
   obtain rfl := someE ho
   have H : Fr 77 ([] ++ (fS [1, 2, 3, 4] [vP b5, vK g10 2, vK g16 3, vP b24])) _ := Hb
   obtain ⟨X, hX⟩ : ∃ X, X = fpl [] := ⟨_, rfl⟩
   have hS : SH M X w [] w := by rw [hX]; exact hS0
   have hd := hS.hand [] [] rfl rfl
   refine Stp.mono (o_lit0 (T := (tI .u8)) (E := 5) hd (by kernel_rfl) (by kernel_rfl)) ?_
   rintro v w2 hq
   obtain ⟨g56, rfl, hq⟩ := hq
   replace hS : SH M X w [eO 5 (tI .u8) ([] : List Int) g56] _ := hS.join [] [] rfl rfl hq
   clear hq
   rw [hX] at hS
   exact ⟨gL [g56], fun _ _ => rfl, hS.sel [0] rfl⟩
  ·intro o ho a w yg29 M Hb hv hO hS
   obtain rfl := someE ho
   exact Stp.mono (o_evs [] (vK g16 3) none [] Hb rfl (by kernel_rfl) (fun q e => by cases e)) fun _ _ hq => ⟨gL [], fun _ _ => hq.1, (hS.below hq.2.below).sel [] rfl⟩
  ·intro o ho a w yg29 M Hb hv hO hS0
   obtain rfl := someE ho
   have H : Fr 77 ((fS [58, 57] [vK g16 3, vK (yg29 48 0) 0]) ++ (fS [1, 2, 3, 4] [vP b5, vK g10 2, vK g16 3, vP b24])) _ := ((Hb).add (hv 48 (by decide) (by decide) 57 rfl)).add (hv 49 (by decide) (by decide) 58 rfl)
   obtain ⟨X, hX⟩ : ∃ X, X = fpl [eO 5 (tI .u8) ([] : List Int) (yg29 48 0), eO 5 (tI .u8) kL1 g16] := ⟨_, rfl⟩
   have hS : SH M X w [eO 5 (tI .u8) ([] : List Int) (yg29 48 0), eO 5 (tI .u8) kL1 g16] w := by rw [hX]; exact hS0
   have hd := hS.hand [0, 1] [] rfl rfl
   refine Stp.mono (o_app2 (T := (tI .u8)) (zv := vU 0) (g1 := (yg29 48 0)) (g2 := g16) (l1 := ([] : List Int)) (l2 := kL1) q59 hq59.symm H hd rfl rfl rfl rfl rfl rfl rfl (by kernel_rfl) (by kernel_rfl) rfl rfl ho58) ?_
   rintro v w2 hq
   obtain ⟨g60, rfl, hq⟩ := hq
   replace hS : SH M X w [eO 5 (tI .u8) q59 g60, eO 5 (tI .u8) kL1 g16] _ := hS.join [0, 1] [] rfl rfl hq
   clear hq
   rw [hX] at hS
   exact ⟨gL [g60], fun _ _ => rfl, hS.sel [0, 1] rfl⟩
  ·intro o ho a w yg29 M Hb hv hO hS0
   obtain rfl := someE ho
   have H : Fr 77 ([] ++ (fS [1, 2, 3, 4] [vP b5, vK g10 2, vK g16 3, vP b24])) _ := Hb
   obtain ⟨X, hX⟩ : ∃ X, X = fpl [] := ⟨_, rfl⟩
   have hS : SH M X w [] w := by rw [hX]; exact hS0
   have hd := hS.hand [] [] rfl rfl
   refine Stp.mono (o_lit (T := (tI .u8)) (E := 5) (zv := vU 0) [vU 5] ([5] : List Int) [gL []] _ H hd rfl (by kernel_rfl) (by kernel_rfl) (by kernel_rfl) (by kernel_rfl) (by kernel_rfl) (by kernel_rfl) (by kernel_rfl) rfl (InnL.cons trivial InnL.nil)) ?_
   rintro v w2 hq
   obtain ⟨g61, rfl, hq⟩ := hq
   replace hS : SH M X w [eO 5 (tI .u8) ([5] : List Int) g61] _ := hS.join [] [] rfl rfl hq
   clear hq
   rw [hX] at hS
   exact ⟨gL [g61], fun _ _ => rfl, hS.sel [0] rfl⟩
  ·intro o ho a w yg29 M Hb hv hO hS0
   obtain rfl := someE ho
   have H : Fr 77 ((fS [60, 59] [vK (yg29 51 0) 1, .slice (yg29 50 0).a q59.length (yg29 50 0).c]) ++ (fS [1, 2, 3, 4] [vP b5, vK g10 2, vK g16 3, vP b24])) _ := ((Hb).add (hv 50 (by decide) (by decide) 59 rfl)).add (hv 51 (by decide) (by decide) 60 rfl)
   obtain ⟨X, hX⟩ : ∃ X, X = fpl [eO 5 (tI .u8) q59 (yg29 50 0), eO 5 (tI .u8) ([5] : List Int) (yg29 51 0)] := ⟨_, rfl⟩
   have hS : SH M X w [eO 5 (tI .u8) q59 (yg29 50 0), eO 5 (tI .u8) ([5] : List Int) (yg29 51 0)] w := by rw [hX]; exact hS0
   have hd := hS.hand [0, 1] [] rfl rfl
   refine Stp.mono (o_app2 (T := (tI .u8)) (zv := vU 0) (g1 := (yg29 50 0)) (g2 := (yg29 51 0)) (l1 := q59) (l2 := ([5] : List Int)) q64 hq64.symm H hd rfl rfl rfl rfl rfl rfl rfl (by kernel_rfl) (by kernel_rfl) rfl rfl ho63) ?_
   rintro v w2 hq
   obtain ⟨g65, rfl, hq⟩ := hq
   replace hS : SH M X w [eO 5 (tI .u8) q64 g65, eO 5 (tI .u8) ([5] : List Int) (yg29 51 0)] _ := hS.join [0, 1] [] rfl rfl hq
   clear hq
   rw [hX] at hS
   exact ⟨gL [g65], fun _ _ => rfl, hS.sel [0, 1] rfl⟩
  ·intro o ho a w yg29 M Hb hv hO hS
   obtain rfl := someE ho
   exact Stp.mono (o_evs [] (vG [vS [108, 105, 110, 101, 45, 104, 101, 105, 103, 104, 116], vT, vU y53.Kind, vS y53.Word, vI y53.Num, vU y53.Color.Red, vU y53.Color.Green, vU y53.Color.Blue, vU y53.Color.Alpha, vK (yg29 47 0) 1, .slice (yg29 52 0).a q64.length (yg29 52 0).c, vT]) none [] ((((Hb).add (hv 46 (by decide) (by decide) 55 rfl)).add (hv 47 (by decide) (by decide) 56 rfl)).add (hv 52 (by decide) (by decide) 61 rfl)) rfl (by kernel_rfl) (fun q e => by cases e)) fun _ _ hq => ⟨gL [], fun _ _ => hq.1, (hS.below hq.2.below).sel [0, 1] rfl⟩
  ·intro o ho a w yg29 M Hb hv hO hS
   obtain rfl := someE ho
   exact Stp.mono (o_evs [(vG (cV y66))] (vG (cV y66)) (some (rB 80 [vS [108, 101, 102, 116]] (vG (cV y66)))) [] Hb rfl (by subst hy66; kernel_rfl) (fun q e => by cases e; exact ((by rw [hy66]; exact (r25_word_ok _).b)))) fun _ _ hq => ⟨gL [], fun _ _ => hq.1, (hS.below hq.2.below).sel [] rfl⟩
  ·intro o ho a w yg29 M Hb hv hO hS0
   obtain rfl := someE ho
   have H : Fr 77 ([] ++ (fS [1, 2, 3, 4] [vP b5, vK g10 2, vK g16 3, vP b24])) _ := Hb
   obtain ⟨X, hX⟩ : ∃ X, X = fpl [] := ⟨_, rfl⟩
   have hS : SH M X w [] w := by rw [hX]; exact hS0
   have hd := hS.hand [] [] rfl rfl
   refine Stp.mono (o_lit (T := tS) (E := 9) (zv := vN) [vS [99, 101, 110, 116, 101, 114], vS [106, 117, 115, 116, 105, 102, 121], vS [108, 101, 102, 116], vS [114, 105, 103, 104, 116]] kL5 [gL [], gL [], gL [], gL []] _ H hd rfl (by kernel_rfl) (by kernel_rfl) (by kernel_rfl) (by kernel_rfl) (by kernel_rfl) (by kernel_rfl) (by kernel_rfl) rfl (InnL.cons trivial (InnL.cons trivial (InnL.cons trivial (InnL.cons trivial InnL.nil))))) ?_
   rintro v w2 hq
   obtain ⟨g67, rfl, hq⟩ := hq
   replace hS : SH M X w [eO 9 tS kL5 g67] _ := hS.join [] [] rfl rfl hq
   clear hq
   rw [hX] at hS
   exact ⟨gL [g67], fun _ _ => rfl, hS.sel [0] rfl⟩
  ·intro o ho a w yg29 M Hb hv hO hS
   obtain rfl := someE ho
   exact Stp.mono (o_evs [] (vG [vS [116, 101, 120, 116, 45, 97, 108, 105, 103, 110], vT, vU y66.Kind, vS y66.Word, vI y66.Num, vU y66.Color.Red, vU y66.Color.Green, vU y66.Color.Blue, vU y66.Color.Alpha, vK (yg29 55 0) 4, vO, vF]) none [] (((Hb).add (hv 54 (by decide) (by decide) 63 rfl)).add (hv 55 (by decide) (by decide) 64 rfl)) rfl (by kernel_rfl) (fun q e => by cases e)) fun _ _ hq => ⟨gL [], fun _ _ => hq.1, (hS.below hq.2.below).sel [0] rfl⟩
  ·intro o ho a w yg29 M Hb hv hO hS
   obtain rfl := someE ho
   exact Stp.mono (o_evs [] (vG [vU 5, vN, vI 1000, vU 0, vU 0, vU 0, vU 0]) none [] Hb rfl (by kernel_rfl) (fun q e => by cases e)) fun _ _ hq => ⟨gL [], fun _ _ => hq.1, (hS.below hq.2.below).sel [] rfl⟩
  ·intro o ho a w yg29 M Hb hv hO hS0
   obtain rfl := someE ho
   have H : Fr 77 ([] ++ (fS [1, 2, 3, 4] [vP b5, vK g10 2, vK g16 3, vP b24])) _ := Hb
   obtain ⟨X, hX⟩ : ∃ X, X = fpl [] := ⟨_, rfl⟩
   have hS : SH M X w [] w := by rw [hX]; exact hS0
   have hd := hS.hand [] [] rfl rfl
   refine Stp.mono (o_lit (T := (tI .u8)) (E := 5) (zv := vU 0) [vU 5] ([5] : List Int) [gL []] _ H hd rfl (by kernel_rfl) (by kernel_rfl) (by kernel_rfl) (by kernel_rfl) (by kernel_rfl) (by kernel_rfl) (by kernel_rfl) rfl (InnL.cons trivial InnL.nil)) ?_
   rintro v w2 hq
   obtain ⟨g69, rfl, hq⟩ := hq
   replace hS : SH M X w [eO 5 (tI .u8) ([5] : List Int) g69] _ := hS.join [] [] rfl rfl hq
   clear hq
   rw [hX] at hS
   exact ⟨gL [g69], fun _ _ => rfl, hS.sel [0] rfl⟩
  ·intro o ho a w yg29 M Hb hv hO hS
   obtain rfl := someE ho
   exact Stp.mono (o_evs [] (vG [vS [111, 112, 97, 99, 105, 116, 121], vF, vU 5, vN, vI 1000, vU 0, vU 0, vU 0, vU 0, vO, vK (yg29 58 0) 1, vF]) none [] (((Hb).add (hv 57 (by decide) (by decide) 66 rfl)).add (hv 58 (by decide) (by decide) 67 rfl)) rfl (by kernel_rfl) (fun q e => by cases e)) fun _ _ hq => ⟨gL [], fun _ _ => hq.1, (hS.below hq.2.below).sel [0] rfl⟩
  ·intro o ho a w yg29 M Hb hv hO hS
   obtain rfl := someE ho
   exact Stp.mono (o_evs [(vG [vU 1, vS [97, 117, 116, 111], vI 0, vU 0, vU 0, vU 0, vU 0])] (vG [vU 1, vS [97, 117, 116, 111], vI 0, vU 0, vU 0, vU 0, vU 0]) (some (fun wz => V.atN b24 0 [vU 1, vS [97, 117, 116, 111], vI 0, vU 0, vU 0, vU 0, vU 0] 0 wz)) [] Hb rfl (by kernel_rfl) (fun q e => by cases e; exact ((hS.bk 0 rfl).atD rfl))) fun _ _ hq => ⟨gL [], fun _ _ => hq.1, (hS.below hq.2.below).sel [0] rfl⟩
  ·intro o ho a w yg29 M Hb hv hO hS0
   obtain rfl := someE ho
   have H : Fr 77 ([] ++ (fS [1, 2, 3, 4] [vP b5, vK g10 2, vK g16 3, vP b24])) _ := Hb
   obtain ⟨X, hX⟩ : ∃ X, X = fpl [] := ⟨_, rfl⟩
   have hS : SH M X w [] w := by rw [hX]; exact hS0
   have hd := hS.hand [] [] rfl rfl
   refine Stp.mono (o_lit (T := tS) (E := 9) (zv := vN) [vS [97, 117, 116, 111]] kL0 [gL []] _ H hd rfl (by kernel_rfl) (by kernel_rfl) (by kernel_rfl) (by kernel_rfl) (by kernel_rfl) (by kernel_rfl) (by kernel_rfl) rfl (InnL.cons trivial InnL.nil)) ?_
   rintro v w2 hq
   obtain ⟨g71, rfl, hq⟩ := hq
   replace hS : SH M X w [eO 9 tS kL0 g71] _ := hS.join [] [] rfl rfl hq
   clear hq
   rw [hX] at hS
   exact ⟨gL [g71], fun _ _ => rfl, hS.sel [0] rfl⟩
  ·intro o ho a w yg29 M Hb hv hO hS0
   obtain rfl := someE ho
   have H : Fr 77 ([] ++ (fS [1, 2, 3, 4] [vP b5, vK g10 2, vK g16 3, vP b24])) _ := Hb
   obtain ⟨X, hX⟩ : ∃ X, X = fpl [] := ⟨_, rfl⟩
   have hS : SH M X w [] w := by rw [hX]; exact hS0
   have hd := hS.hand [] [] rfl rfl
   refine Stp.mono (o_lit (T := (tI .u8)) (E := 5) (zv := vU 0) [vU 6] ([6] : List Int) [gL []] _ H hd rfl (by kernel_rfl) (by kernel_rfl) (by kernel_rfl) (by kernel_rfl) (by kernel_rfl) (by kernel_rfl) (by kernel_rfl) rfl (InnL.cons trivial InnL.nil)) ?_
   rintro v w2 hq
   obtain ⟨g73, rfl, hq⟩ := hq
   replace hS : SH M X w [eO 5 (tI .u8) ([6] : List Int) g73] _ := hS.join [] [] rfl rfl hq
   clear hq
   rw [hX] at hS
   exact ⟨gL [g73], fun _ _ => rfl, hS.sel [0] rfl⟩
  ·intro o ho a w yg29 M Hb hv hO hS
   obtain rfl := someE ho
   exact Stp.mono (o_evs [] (vG [vS [122, 45, 105, 110, 100, 101, 120], vF, vU 1, vS [97, 117, 116, 111], vI 0, vU 0, vU 0, vU 0, vU 0, vK (yg29 61 0) 1, vK (yg29 62 0) 1, vF]) none [] ((((Hb).add (hv 60 (by decide) (by decide) 69 rfl)).add (hv 61 (by decide) (by decide) 70 rfl)).add (hv 62 (by decide) (by decide) 71 rfl)) rfl (by kernel_rfl) (fun q e => by cases e)) fun _ _ hq => ⟨gL [], fun _ _ => hq.1, (hS.below hq.2.below).sel [0, 1] rfl⟩
  ·intro o ho a w yg29 M Hb hv hO hS
   obtain rfl := someE ho
   exact Stp.mono (o_evs [] (vG [vU 6, vN, vI 0, vU 0, vU 0, vU 0, vU 0]) none [] Hb rfl (by kernel_rfl) (fun q e => by cases e)) fun _ _ hq => ⟨gL [], fun _ _ => hq.1, (hS.below hq.2.below).sel [] rfl⟩
  ·intro o ho a w yg29 M Hb hv hO hS0
   obtain rfl := someE ho
   have H : Fr 77 ([] ++ (fS [1, 2, 3, 4] [vP b5, vK g10 2, vK g16 3, vP b24])) _ := Hb
   obtain ⟨X, hX⟩ : ∃ X, X = fpl [] := ⟨_, rfl⟩
   have hS : SH M X w [] w := by rw [hX]; exact hS0
   have hd := hS.hand [] [] rfl rfl
   refine Stp.mono (o_lit (T := (tI .u8)) (E := 5) (zv := vU 0) [vU 6] ([6] : List Int) [gL []] _ H hd rfl (by kernel_rfl) (by kernel_rfl) (by kernel_rfl) (by kernel_rfl) (by kernel_rfl) (by kernel_rfl) (by kernel_rfl) rfl (InnL.cons trivial InnL.nil)) ?_
   rintro v w2 hq
   obtain ⟨g75, rfl, hq⟩ := hq
   replace hS : SH M X w [eO 5 (tI .u8) ([6] : List Int) g75] _ := hS.join [] [] rfl rfl hq
   clear hq
   rw [hX] at hS
   exact ⟨gL [g75], fun _ _ => rfl, hS.sel [0] rfl⟩
  ·intro o ho a w yg29 M Hb hv hO hS
   obtain rfl := someE ho
   exact Stp.mono (o_evs [] (vG [vS [111, 114, 100, 101, 114], vF, vU 6, vN, vI 0, vU 0, vU 0, vU 0, vU 0, vO, vK (yg29 65 0) 1, vF]) none [] (((Hb).add (hv 64 (by decide) (by decide) 73 rfl)).add (hv 65 (by decide) (by decide) 74 rfl)) rfl (by kernel_rfl) (fun q e => by cases e)) fun _ _ hq => ⟨gL [], fun _ _ => hq.1, (hS.below hq.2.below).sel [0] rfl⟩
  ·intro o ho a w yg29 M Hb hv hO hS0
   obtain rfl := someE ho
   have H : Fr 77 ((fS [75, 72, 68, 65, 62, 54, 51, 47, 43, 39, 35, 31, 27, 24, 21, 18, 15, 12] [vG [vS [111, 114, 100, 101, 114], vF, vU 6, vN, vI 0, vU 0, vU 0, vU 0, vU 0, vO, vK (yg29 65 0) 1, vF], vG [vS [122, 45, 105, 110, 100, 101, 120], vF, vU 1, vS [97, 117, 116, 111], vI 0, vU 0, vU 0, vU 0, vU 0, vK (yg29 61 0) 1, vK (yg29 62 0) 1, vF], vG [vS [111, 112, 97, 99, 105, 116, 121], vF, vU 5, vN, vI 1000, vU 0, vU 0, vU 0, vU 0, vO, vK (yg29 58 0) 1, vF], vG [vS [116, 101, 120, 116, 45, 97, 108, 105, 103, 110], vT, vU y66.Kind, vS y66.Word, vI y66.Num, vU y66.Color.Red, vU y66.Color.Green, vU y66.Color.Blue, vU y66.Color.Alpha, vK (yg29 55 0) 4, vO, vF], vG [vS [108, 105, 110, 101, 45, 104, 101, 105, 103, 104, 116], vT, vU y53.Kind, vS y53.Word, vI y53.Num, vU y53.Color.Red, vU y53.Color.Green, vU y53.Color.Blue, vU y53.Color.Alpha, vK (yg29 47 0) 1, .slice (yg29 52 0).a q64.length (yg29 52 0).c, vT], vG [vS [102, 111, 110, 116, 45, 115, 105, 122, 101], vT, vU y52.Kind, vS y52.Word, vI y52.Num, vU y52.Color.Red, vU y52.Color.Green, vU y52.Color.Blue, vU y52.Color.Alpha, vO, vK g16 3, vT], vG [vS [109, 97, 114, 103, 105, 110, 45, 108, 101, 102, 116], vF, vU y49.Kind, vS y49.Word, vI y49.Num, vU y49.Color.Red, vU y49.Color.Green, vU y49.Color.Blue, vU y49.Color.Alpha, vK (yg29 40 0) 1, vK g16 3, vF], vG [vS [109, 97, 114, 103, 105, 110, 45, 98, 111, 116, 116, 111, 109], vF, vU y46.Kind, vS y46.Word, vI y46.Num, vU y46.Color.Red, vU y46.Color.Green, vU y46.Color.Blue, vU y46.Color.Alpha, vK (yg29 36 0) 1, vK g16 3, vF], vG [vS [109, 97, 114, 103, 105, 110, 45, 114, 105, 103, 104, 116], vF, vU y43.Kind, vS y43.Word, vI y43.Num, vU y43.Color.Red, vU y43.Color.Green, vU y43.Color.Blue, vU y43.Color.Alpha, vK (yg29 32 0) 1, vK g16 3, vF], vG [vS [109, 97, 114, 103, 105, 110, 45, 116, 111, 112], vF, vU y40.Kind, vS y40.Word, vI y40.Num, vU y40.Color.Red, vU y40.Color.Green, vU y40.Color.Blue, vU y40.Color.Alpha, vK (yg29 28 0) 1, vK g16 3, vF], vG [vS [104, 101, 105, 103, 104, 116], vF, vU 1, vS [97, 117, 116, 111], vI 0, vU 0, vU 0, vU 0, vU 0, vK (yg29 24 0) 1, vK g16 3, vT], vG [vS [119, 105, 100, 116, 104], vF, vU 1, vS [97, 117, 116, 111], vI 0, vU 0, vU 0, vU 0, vU 0, vK (yg29 20 0) 1, vK g16 3, vT], vG [vS [118, 105, 115, 105, 98, 105, 108, 105, 116, 121], vT, vU y33.Kind, vS y33.Word, vI y33.Num, vU y33.Color.Red, vU y33.Color.Green, vU y33.Color.Blue, vU y33.Color.Alpha, vK (yg29 17 0) 3, vO, vF], vG [vS [100, 105, 115, 112, 108, 97, 121], vF, vU y30.Kind, vS y30.Word, vI y30.Num, vU y30.Color.Red, vU y30.Color.Green, vU y30.Color.Blue, vU y30.Color.Alpha, vK (yg29 14 0) 5, vO, vF], vG [vS [111, 117, 116, 108, 105, 110, 101, 45, 99, 111, 108, 111, 114], vF, vU 8, vN, vI 0, vU 0, vU 0, vU 0, vU 0, vO, vK g10 2, vF], vG [vS [98, 111, 114, 100, 101, 114, 45, 99, 111, 108, 111, 114], vF, vU 8, vN, vI 0, vU 0, vU 0, vU 0, vU 0, vO, vK g10 2, vF], vG [vS [98, 97, 99, 107, 103, 114, 111, 117, 110, 100, 45, 99, 111, 108, 111, 114], vF, vU 7, vN, vI 0, vU 0, vU 0, vU 0, vU 0, vO, vK g10 2, vF], vG [vS [99, 111, 108, 111, 114], vT, vU 7, vN, vI 0, vU 0, vU 0, vU 0, vU 255, vO, vK g10 2, vF]]) ++ (fS [1, 2, 3, 4] [vP b5, vK g10 2, vK g16 3, vP b24])) _ := ((((((((((((((((((Hb).add (hv 3 (by decide) (by decide) 12 rfl)).add (hv 6 (by decide) (by decide) 15 rfl)).add (hv 9 (by decide) (by decide) 18 rfl)).add (hv 12 (by decide) (by decide) 21 rfl)).add (hv 15 (by decide) (by decide) 24 rfl)).add (hv 18 (by decide) (by decide) 27 rfl)).add (hv 22 (by decide) (by decide) 31 rfl)).add (hv 26 (by decide) (by decide) 35 rfl)).add (hv 30 (by decide) (by decide) 39 rfl)).add (hv 34 (by decide) (by decide) 43 rfl)).add (hv 38 (by decide) (by decide) 47 rfl)).add (hv 42 (by decide) (by decide) 51 rfl)).add (hv 45 (by decide) (by decide) 54 rfl)).add (hv 53 (by decide) (by decide) 62 rfl)).add (hv 56 (by decide) (by decide) 65 rfl)).add (hv 59 (by decide) (by decide) 68 rfl)).add (hv 63 (by decide) (by decide) 72 rfl)).add (hv 66 (by decide) (by decide) 75 rfl)
   obtain ⟨X, hX⟩ : ∃ X, X = fpl [eO 9 tS kL2 (yg29 14 0), eO 9 tS kL3 (yg29 17 0), eO 9 tS kL0 (yg29 20 0), eO 9 tS kL0 (yg29 24 0), eO 9 tS kL0 (yg29 28 0), eO 9 tS kL0 (yg29 32 0), eO 9 tS kL0 (yg29 36 0), eO 9 tS kL0 (yg29 40 0), eO 9 tS kL4 (yg29 47 0), eO 5 (tI .u8) q64 (yg29 52 0), eO 9 tS kL5 (yg29 55 0), eO 5 (tI .u8) ([5] : List Int) (yg29 58 0), eO 9 tS kL0 (yg29 61 0), eO 5 (tI .u8) ([6] : List Int) (yg29 62 0), eO 5 (tI .u8) ([6] : List Int) (yg29 65 0), eO 5 (tI .u8) kL1 g16, eO 5 (tI .u8) ([7, 8] : List Int) g10] := ⟨_, rfl⟩
   have hS : SH M X w [eO 9 tS kL2 (yg29 14 0), eO 9 tS kL3 (yg29 17 0), eO 9 tS kL0 (yg29 20 0), eO 9 tS kL0 (yg29 24 0), eO 9 tS kL0 (yg29 28 0), eO 9 tS kL0 (yg29 32 0), eO 9 tS kL0 (yg29 36 0), eO 9 tS kL0 (yg29 40 0), eO 9 tS kL4 (yg29 47 0), eO 5 (tI .u8) q64 (yg29 52 0), eO 9 tS kL5 (yg29 55 0), eO 5 (tI .u8) ([5] : List Int) (yg29 58 0), eO 9 tS kL0 (yg29 61 0), eO 5 (tI .u8) ([6] : List Int) (yg29 62 0), eO 5 (tI .u8) ([6] : List Int) (yg29 65 0), eO 5 (tI .u8) kL1 g16, eO 5 (tI .u8) ([7, 8] : List Int) g10] w := by rw [hX]; exact hS0
   replace hS : SH M X w [eI (tI .u8) ([7, 8] : List Int) g10, eO 9 tS kL2 (yg29 14 0), eO 9 tS kL3 (yg29 17 0), eO 9 tS kL0 (yg29 20 0), eO 9 tS kL0 (yg29 24 0), eO 9 tS kL0 (yg29 28 0), eO 9 tS kL0 (yg29 32 0), eO 9 tS kL0 (yg29 36 0), eO 9 tS kL0 (yg29 40 0), eO 9 tS kL4 (yg29 47 0), eO 5 (tI .u8) q64 (yg29 52 0), eO 9 tS kL5 (yg29 55 0), eO 5 (tI .u8) ([5] : List Int) (yg29 58 0), eO 9 tS kL0 (yg29 61 0), eO 5 (tI .u8) ([6] : List Int) (yg29 62 0), eO 5 (tI .u8) ([6] : List Int) (yg29 65 0), eO 5 (tI .u8) kL1 g16] _ := SH.frz1 (hS.sel [16, 0, 1, 2, 3, 4, 5, 6, 7, 8, 9, 10, 11, 12, 13, 14, 15] rfl)
   replace hS : SH M X w [eI tS kL2 (yg29 14 0), eI (tI .u8) ([7, 8] : List Int) g10, eO 9 tS kL3 (yg29 17 0), eO 9 tS kL0 (yg29 20 0), eO 9 tS kL0 (yg29 24 0), eO 9 tS kL0 (yg29 28 0), eO 9 tS kL0 (yg29 32 0), eO 9 tS kL0 (yg29 36 0), eO 9 tS kL0 (yg29 40 0), eO 9 tS kL4 (yg29 47 0), eO 5 (tI .u8) q64 (yg29 52 0), eO 9 tS kL5 (yg29 55 0), eO 5 (tI .u8) ([5] : List Int) (yg29 58 0), eO 9 tS kL0 (yg29 61 0), eO 5 (tI .u8) ([6] : List Int) (yg29 62 0), eO 5 (tI .u8) ([6] : List Int) (yg29 65 0), eO 5 (tI .u8) kL1 g16] _ := SH.frz1 (hS.sel [1, 0, 2, 3, 4, 5, 6, 7, 8, 9, 10, 11, 12, 13, 14, 15, 16] rfl)
   replace hS : SH M X w [eI tS kL3 (yg29 17 0), eI tS kL2 (yg29 14 0), eI (tI .u8) ([7, 8] : List Int) g10, eO 9 tS kL0 (yg29 20 0), eO 9 tS kL0 (yg29 24 0), eO 9 tS kL0 (yg29 28 0), eO 9 tS kL0 (yg29 32 0), eO 9 tS kL0 (yg29 36 0), eO 9 tS kL0 (yg29 40 0), eO 9 tS kL4 (yg29 47 0), eO 5 (tI .u8) q64 (yg29 52 0), eO 9 tS kL5 (yg29 55 0), eO 5 (tI .u8) ([5] : List Int) (yg29 58 0), eO 9 tS kL0 (yg29 61 0), eO 5 (tI .u8) ([6] : List Int) (yg29 62 0), eO 5 (tI .u8) ([6] : List Int) (yg29 65 0), eO 5 (tI .u8) kL1 g16] _ := SH.frz1 (hS.sel [2, 0, 1, 3, 4, 5, 6, 7, 8, 9, 10, 11, 12, 13, 14, 15, 16] rfl)
   replace hS : SH M X w [eI tS kL0 (yg29 20 0), eI tS kL3 (yg29 17 0), eI tS kL2 (yg29 14 0), eI (tI .u8) ([7, 8] : List Int) g10, eO 9 tS kL0 (yg29 24 0), eO 9 tS kL0 (yg29 28 0), eO 9 tS kL0 (yg29 32 0), eO 9 tS kL0 (yg29 36 0), eO 9 tS kL0 (yg29 40 0), eO 9 tS kL4 (yg29 47 0), eO 5 (tI .u8) q64 (yg29 52 0), eO 9 tS kL5 (yg29 55 0), eO 5 (tI .u8) ([5] : List Int) (yg29 58 0), eO 9 tS kL0 (yg29 61 0), eO 5 (tI .u8) ([6] : List Int) (yg29 62 0), eO 5 (tI .u8) ([6] : List Int) (yg29 65 0), eO 5 (tI .u8) kL1 g16] _ := SH.frz1 (hS.sel [3, 0, 1, 2, 4, 5, 6, 7, 8, 9, 10, 11, 12, 13, 14, 15, 16] rfl)
   replace hS : SH M X w [eI (tI .u8) kL1 g16, eI tS kL0 (yg29 20 0), eI tS kL3 (yg29 17 0), eI tS kL2 (yg29 14 0), eI (tI .u8) ([7, 8] : List Int) g10, eO 9 tS kL0 (yg29 24 0), eO 9 tS kL0 (yg29 28 0), eO 9 tS kL0 (yg29 32 0), eO 9 tS kL0 (yg29 36 0), eO 9 tS kL0 (yg29 40 0), eO 9 tS kL4 (yg29 47 0), eO 5 (tI .u8) q64 (yg29 52 0), eO 9 tS kL5 (yg29 55 0), eO 5 (tI .u8) ([5] : List Int) (yg29 58 0), eO 9 tS kL0 (yg29 61 0), eO 5 (tI .u8) ([6] : List Int) (yg29 62 0), eO 5 (tI .u8) ([6] : List Int) (yg29 65 0)] _ := SH.frz1 (hS.sel [16, 0, 1, 2, 3, 4, 5, 6, 7, 8, 9, 10, 11, 12, 13, 14, 15] rfl)
   replace hS : SH M X w [eI tS kL0 (yg29 24 0), eI (tI .u8) kL1 g16, eI tS kL0 (yg29 20 0), eI tS kL3 (yg29 17 0), eI tS kL2 (yg29 14 0), eI (tI .u8) ([7, 8] : List Int) g10, eO 9 tS kL0 (yg29 28 0), eO 9 tS kL0 (yg29 32 0), eO 9 tS kL0 (yg29 36 0), eO 9 tS kL0 (yg29 40 0), eO 9 tS kL4 (yg29 47 0), eO 5 (tI .u8) q64 (yg29 52 0), eO 9 tS kL5 (yg29 55 0), eO 5 (tI .u8) ([5] : List Int) (yg29 58 0), eO 9 tS kL0 (yg29 61 0), eO 5 (tI .u8) ([6] : List Int) (yg29 62 0), eO 5 (tI .u8) ([6] : List Int) (yg29 65 0)] _ := SH.frz1 (hS.sel [5, 0, 1, 2, 3, 4, 6, 7, 8, 9, 10, 11, 12, 13, 14, 15, 16] rfl)
   replace hS : SH M X w [eI tS kL0 (yg29 28 0), eI tS kL0 (yg29 24 0), eI (tI .u8) kL1 g16, eI tS kL0 (yg29 20 0), eI tS kL3 (yg29 17 0), eI tS kL2 (yg29 14 0), eI (tI .u8) ([7, 8] : List Int) g10, eO 9 tS kL0 (yg29 32 0), eO 9 tS kL0 (yg29 36 0), eO 9 tS kL0 (yg29 40 0), eO 9 tS kL4 (yg29 47 0), eO 5 (tI .u8) q64 (yg29 52 0), eO 9 tS kL5 (yg29 55 0), eO 5 (tI .u8) ([5] : List Int) (yg29 58 0), eO 9 tS kL0 (yg29 61 0), eO 5 (tI .u8) ([6] : List Int) (yg29 62 0), eO 5 (tI .u8) ([6] : List Int) (yg29 65 0)] _ := SH.frz1 (hS.sel [6, 0, 1, 2, 3, 4, 5, 7, 8, 9, 10, 11, 12, 13, 14, 15, 16] rfl)
   replace hS : SH M X w [eI tS kL0 (yg29 32 0), eI tS kL0 (yg29 28 0), eI tS kL0 (yg29 24 0), eI (tI .u8) kL1 g16, eI tS kL0 (yg29 20 0), eI tS kL3 (yg29 17 0), eI tS kL2 (yg29 14 0), eI (tI .u8) ([7, 8] : List Int) g10, eO 9 tS kL0 (yg29 36 0), eO 9 tS kL0 (yg29 40 0), eO 9 tS kL4 (yg29 47 0), eO 5 (tI .u8) q64 (yg29 52 0), eO 9 tS kL5 (yg29 55 0), eO 5 (tI .u8) ([5] : List Int) (yg29 58 0), eO 9 tS kL0 (yg29 61 0), eO 5 (tI .u8) ([6] : List Int) (yg29 62 0), eO 5 (tI .u8) ([6] : List Int) (yg29 65 0)] _ := SH.frz1 (hS.sel [7, 0, 1, 2, 3, 4, 5, 6, 8, 9, 10, 11, 12, 13, 14, 15, 16] rfl)
   replace hS : SH M X w [eI tS kL0 (yg29 36 0), eI tS kL0 (yg29 32 0), eI tS kL0 (yg29 28 0), eI tS kL0 (yg29 24 0), eI (tI .u8) kL1 g16, eI tS kL0 (yg29 20 0), eI tS kL3 (yg29 17 0), eI tS kL2 (yg29 14 0), eI (tI .u8) ([7, 8] : List Int) g10, eO 9 tS kL0 (yg29 40 0), eO 9 tS kL4 (yg29 47 0), eO 5 (tI .u8) q64 (yg29 52 0), eO 9 tS kL5 (yg29 55 0), eO 5 (tI .u8) ([5] : List Int) (yg29 58 0), eO 9 tS kL0 (yg29 61 0), eO 5 (tI .u8) ([6] : List Int) (yg29 62 0), eO 5 (tI .u8) ([6] : List Int) (yg29 65 0)] _ := SH.frz1 (hS.sel [8, 0, 1, 2, 3, 4, 5, 6, 7, 9, 10, 11, 12, 13, 14, 15, 16] rfl)
   replace hS : SH M X w [eI tS kL0 (yg29 40 0), eI tS kL0 (yg29 36 0), eI tS kL0 (yg29 32 0), eI tS kL0 (yg29 28 0), eI tS kL0 (yg29 24 0), eI (tI .u8) kL1 g16, eI tS kL0 (yg29 20 0), eI tS kL3 (yg29 17 0), eI tS kL2 (yg29 14 0), eI (tI .u8) ([7, 8] : List Int) g10, eO 9 tS kL4 (yg29 47 0), eO 5 (tI .u8) q64 (yg29 52 0), eO 9 tS kL5 (yg29 55 0), eO 5 (tI .u8) ([5] : List Int) (yg29 58 0), eO 9 tS kL0 (yg29 61 0), eO 5 (tI .u8) ([6] : List Int) (yg29 62 0), eO 5 (tI .u8) ([6] : List Int) (yg29 65 0)] _ := SH.frz1 (hS.sel [9, 0, 1, 2, 3, 4, 5, 6, 7, 8, 10, 11, 12, 13, 14, 15, 16] rfl)
   replace hS : SH M X w [eI tS kL4 (yg29 47 0), eI tS kL0 (yg29 40 0), eI tS kL0 (yg29 36 0), eI tS kL0 (yg29 32 0), eI tS kL0 (yg29 28 0), eI tS kL0 (yg29 24 0), eI (tI .u8) kL1 g16, eI tS kL0 (yg29 20 0), eI tS kL3 (yg29 17 0), eI tS kL2 (yg29 14 0), eI (tI .u8) ([7, 8] : List Int) g10, eO 5 (tI .u8) q64 (yg29 52 0), eO 9 tS kL5 (yg29 55 0), eO 5 (tI .u8) ([5] : List Int) (yg29 58 0), eO 9 tS kL0 (yg29 61 0), eO 5 (tI .u8) ([6] : List Int) (yg29 62 0), eO 5 (tI .u8) ([6] : List Int) (yg29 65 0)] _ := SH.frz1 (hS.sel [10, 0, 1, 2, 3, 4, 5, 6, 7, 8, 9, 11, 12, 13, 14, 15, 16] rfl)
   replace hS : SH M X w [eI (tI .u8) q64 (yg29 52 0), eI tS kL4 (yg29 47 0), eI tS kL0 (yg29 40 0), eI tS kL0 (yg29 36 0), eI tS kL0 (yg29 32 0), eI tS kL0 (yg29 28 0), eI tS kL0 (yg29 24 0), eI (tI .u8) kL1 g16, eI tS kL0 (yg29 20 0), eI tS kL3 (yg29 17 0), eI tS kL2 (yg29 14 0), eI (tI .u8) ([7, 8] : List Int) g10, eO 9 tS kL5 (yg29 55 0), eO 5 (tI .u8) ([5] : List Int) (yg29 58 0), eO 9 tS kL0 (yg29 61 0), eO 5 (tI .u8) ([6] : List Int) (yg29 62 0), eO 5 (tI .u8) ([6] : List Int) (yg29 65 0)] _ := SH.frz1 (hS.sel [11, 0, 1, 2, 3, 4, 5, 6, 7, 8, 9, 10, 12, 13, 14, 15, 16] rfl)
   replace hS : SH M X w [eI tS kL5 (yg29 55 0), eI (tI .u8) q64 (yg29 52 0), eI tS kL4 (yg29 47 0), eI tS kL0 (yg29 40 0), eI tS kL0 (yg29 36 0), eI tS kL0 (yg29 32 0), eI tS kL0 (yg29 28 0), eI tS kL0 (yg29 24 0), eI (tI .u8) kL1 g16, eI tS kL0 (yg29 20 0), eI tS kL3 (yg29 17 0), eI tS kL2 (yg29 14 0), eI (tI .u8) ([7, 8] : List Int) g10, eO 5 (tI .u8) ([5] : List Int) (yg29 58 0), eO 9 tS kL0 (yg29 61 0), eO 5 (tI .u8) ([6] : List Int) (yg29 62 0), eO 5 (tI .u8) ([6] : List Int) (yg29 65 0)] _ := SH.frz1 (hS.sel [12, 0, 1, 2, 3, 4, 5, 6, 7, 8, 9, 10, 11, 13, 14, 15, 16] rfl)
   replace hS : SH M X w [eI (tI .u8) ([5] : List Int) (yg29 58 0), eI tS kL5 (yg29 55 0), eI (tI .u8) q64 (yg29 52 0), eI tS kL4 (yg29 47 0), eI tS kL0 (yg29 40 0), eI tS kL0 (yg29 36 0), eI tS kL0 (yg29 32 0), eI tS kL0 (yg29 28 0), eI tS kL0 (yg29 24 0), eI (tI .u8) kL1 g16, eI tS kL0 (yg29 20 0), eI tS kL3 (yg29 17 0), eI tS kL2 (yg29 14 0), eI (tI .u8) ([7, 8] : List Int) g10, eO 9 tS kL0 (yg29 61 0), eO 5 (tI .u8) ([6] : List Int) (yg29 62 0), eO 5 (tI .u8) ([6] : List Int) (yg29 65 0)] _ := SH.frz1 (hS.sel [13, 0, 1, 2, 3, 4, 5, 6, 7, 8, 9, 10, 11, 12, 14, 15, 16] rfl)
   replace hS : SH M X w [eI tS kL0 (yg29 61 0), eI (tI .u8) ([5] : List Int) (yg29 58 0), eI tS kL5 (yg29 55 0), eI (tI .u8) q64 (yg29 52 0), eI tS kL4 (yg29 47 0), eI tS kL0 (yg29 40 0), eI tS kL0 (yg29 36 0), eI tS kL0 (yg29 32 0), eI tS kL0 (yg29 28 0), eI tS kL0 (yg29 24 0), eI (tI .u8) kL1 g16, eI tS kL0 (yg29 20 0), eI tS kL3 (yg29 17 0), eI tS kL2 (yg29 14 0), eI (tI .u8) ([7, 8] : List Int) g10, eO 5 (tI .u8) ([6] : List Int) (yg29 62 0), eO 5 (tI .u8) ([6] : List Int) (yg29 65 0)] _ := SH.frz1 (hS.sel [14, 0, 1, 2, 3, 4, 5, 6, 7, 8, 9, 10, 11, 12, 13, 15, 16] rfl)
   replace hS : SH M X w [eI (tI .u8) ([6] : List Int) (yg29 62 0), eI tS kL0 (yg29 61 0), eI (tI .u8) ([5] : List Int) (yg29 58 0), eI tS kL5 (yg29 55 0), eI (tI .u8) q64 (yg29 52 0), eI tS kL4 (yg29 47 0), eI tS kL0 (yg29 40 0), eI tS kL0 (yg29 36 0), eI tS kL0 (yg29 32 0), eI tS kL0 (yg29 28 0), eI tS kL0 (yg29 24 0), eI (tI .u8) kL1 g16, eI tS kL0 (yg29 20 0), eI tS kL3 (yg29 17 0), eI tS kL2 (yg29 14 0), eI (tI .u8) ([7, 8] : List Int) g10, eO 5 (tI .u8) ([6] : List Int) (yg29 65 0)] _ := SH.frz1 (hS.sel [15, 0, 1, 2, 3, 4, 5, 6, 7, 8, 9, 10, 11, 12, 13, 14, 16] rfl)
   replace hS : SH M X w [eI (tI .u8) ([6] : List Int) (yg29 65 0), eI (tI .u8) ([6] : List Int) (yg29 62 0), eI tS kL0 (yg29 61 0), eI (tI .u8) ([5] : List Int) (yg29 58 0), eI tS kL5 (yg29 55 0), eI (tI .u8) q64 (yg29 52 0), eI tS kL4 (yg29 47 0), eI tS kL0 (yg29 40 0), eI tS kL0 (yg29 36 0), eI tS kL0 (yg29 32 0), eI tS kL0 (yg29 28 0), eI tS kL0 (yg29 24 0), eI (tI .u8) kL1 g16, eI tS kL0 (yg29 20 0), eI tS kL3 (yg29 17 0), eI tS kL2 (yg29 14 0), eI (tI .u8) ([7, 8] : List Int) g10] _ := SH.frz1 (hS.sel [16, 0, 1, 2, 3, 4, 5, 6, 7, 8, 9, 10, 11, 12, 13, 14, 15] rfl)
   have hd := hS.hand [16, 15, 14, 13, 12, 11, 10, 9, 8, 7, 6, 5, 4, 3, 2, 1, 0] [0, 1, 2, 3, 4, 5, 6, 7, 8, 9, 10, 11, 12, 13, 14, 15, 16] rfl rfl
   refine Stp.mono (o_lit (T := tyProp) (E := 100) (zv := vG [vN, vF, vU 0, vN, vI 0, vU 0, vU 0, vU 0, vU 0, vO, vO, vF]) [vS [99, 111, 108, 111, 114], vT, vU 7, vN, vI 0, vU 0, vU 0, vU 0, vU 255, vO, vK g10 2, vF, vS [98, 97, 99, 107, 103, 114, 111, 117, 110, 100, 45, 99, 111, 108, 111, 114], vF, vU 7, vN, vI 0, vU 0, vU 0, vU 0, vU 0, vO, vK g10 2, vF, vS [98, 111, 114, 100, 101, 114, 45, 99, 111, 108, 111, 114], vF, vU 8, vN, vI 0, vU 0, vU 0, vU 0, vU 0, vO, vK g10 2, vF, vS [111, 117, 116, 108, 105, 110, 101, 45, 99, 111, 108, 111, 114], vF, vU 8, vN, vI 0, vU 0, vU 0, vU 0, vU 0, vO, vK g10 2, vF, vS [100, 105, 115, 112, 108, 97, 121], vF, vU y30.Kind, vS y30.Word, vI y30.Num, vU y30.Color.Red, vU y30.Color.Green, vU y30.Color.Blue, vU y30.Color.Alpha, vK (yg29 14 0) 5, vO, vF, vS [118, 105, 115, 105, 98, 105, 108, 105, 116, 121], vT, vU y33.Kind, vS y33.Word, vI y33.Num, vU y33.Color.Red, vU y33.Color.Green, vU y33.Color.Blue, vU y33.Color.Alpha, vK (yg29 17 0) 3, vO, vF, vS [119, 105, 100, 116, 104], vF, vU 1, vS [97, 117, 116, 111], vI 0, vU 0, vU 0, vU 0, vU 0, vK (yg29 20 0) 1, vK g16 3, vT, vS [104, 101, 105, 103, 104, 116], vF, vU 1, vS [97, 117, 116, 111], vI 0, vU 0, vU 0, vU 0, vU 0, vK (yg29 24 0) 1, vK g16 3, vT, vS [109, 97, 114, 103, 105, 110, 45, 116, 111, 112], vF, vU y40.Kind, vS y40.Word, vI y40.Num, vU y40.Color.Red, vU y40.Color.Green, vU y40.Color.Blue, vU y40.Color.Alpha, vK (yg29 28 0) 1, vK g16 3, vF, vS [109, 97, 114, 103, 105, 110, 45, 114, 105, 103, 104, 116], vF, vU y43.Kind, vS y43.Word, vI y43.Num, vU y43.Color.Red, vU y43.Color.Green, vU y43.Color.Blue, vU y43.Color.Alpha, vK (yg29 32 0) 1, vK g16 3, vF, vS [109, 97, 114, 103, 105, 110, 45, 98, 111, 116, 116, 111, 109], vF, vU y46.Kind, vS y46.Word, vI y46.Num, vU y46.Color.Red, vU y46.Color.Green, vU y46.Color.Blue, vU y46.Color.Alpha, vK (yg29 36 0) 1, vK g16 3, vF, vS [109, 97, 114, 103, 105, 110, 45, 108, 101, 102, 116], vF, vU y49.Kind, vS y49.Word, vI y49.Num, vU y49.Color.Red, vU y49.Color.Green, vU y49.Color.Blue, vU y49.Color.Alpha, vK (yg29 40 0) 1, vK g16 3, vF, vS [102, 111, 110, 116, 45, 115, 105, 122, 101], vT, vU y52.Kind, vS y52.Word, vI y52.Num, vU y52.Color.Red, vU y52.Color.Green, vU y52.Color.Blue, vU y52.Color.Alpha, vO, vK g16 3, vT, vS [108, 105, 110, 101, 45, 104, 101, 105, 103, 104, 116], vT, vU y53.Kind, vS y53.Word, vI y53.Num, vU y53.Color.Red, vU y53.Color.Green, vU y53.Color.Blue, vU y53.Color.Alpha, vK (yg29 47 0) 1, .slice (yg29 52 0).a q64.length (yg29 52 0).c, vT, vS [116, 101, 120, 116, 45, 97, 108, 105, 103, 110], vT, vU y66.Kind, vS y66.Word, vI y66.Num, vU y66.Color.Red, vU y66.Color.Green, vU y66.Color.Blue, vU y66.Color.Alpha, vK (yg29 55 0) 4, vO, vF, vS [111, 112, 97, 99, 105, 116, 121], vF, vU 5, vN, vI 1000, vU 0, vU 0, vU 0, vU 0, vO, vK (yg29 58 0) 1, vF, vS [122, 45, 105, 110, 100, 101, 120], vF, vU 1, vS [97, 117, 116, 111], vI 0, vU 0, vU 0, vU 0, vU 0, vK (yg29 61 0) 1, vK (yg29 62 0) 1, vF, vS [111, 114, 100, 101, 114], vF, vU 6, vN, vI 0, vU 0, vU 0, vU 0, vU 0, vO, vK (yg29 65 0) 1, vF] ([(TProp.mk [99, 111, 108, 111, 114] true (TVal.mk 7 [] 0 (TColor.mk 0 0 0 255)) [] ([7, 8] : List Int) false), (TProp.mk [98, 97, 99, 107, 103, 114, 111, 117, 110, 100, 45, 99, 111, 108, 111, 114] false (TVal.mk 7 [] 0 (TColor.mk 0 0 0 0)) [] ([7, 8] : List Int) false), (TProp.mk [98, 111, 114, 100, 101, 114, 45, 99, 111, 108, 111, 114] false (TVal.mk 8 [] 0 (TColor.mk 0 0 0 0)) [] ([7, 8] : List Int) false), (TProp.mk [111, 117, 116, 108, 105, 110, 101, 45, 99, 111, 108, 111, 114] false (TVal.mk 8 [] 0 (TColor.mk 0 0 0 0)) [] ([7, 8] : List Int) false), (TProp.mk [100, 105, 115, 112, 108, 97, 121] false y30 kL2 [] false), (TProp.mk [118, 105, 115, 105, 98, 105, 108, 105, 116, 121] true y33 kL3 [] false), (TProp.mk [119, 105, 100, 116, 104] false (TVal.mk 1 [97, 117, 116, 111] 0 (TColor.mk 0 0 0 0)) kL0 kL1 true), (TProp.mk [104, 101, 105, 103, 104, 116] false (TVal.mk 1 [97, 117, 116, 111] 0 (TColor.mk 0 0 0 0)) kL0 kL1 true), (TProp.mk [109, 97, 114, 103, 105, 110, 45, 116, 111, 112] false y40 kL0 kL1 false), (TProp.mk [109, 97, 114, 103, 105, 110, 45, 114, 105, 103, 104, 116] false y43 kL0 kL1 false), (TProp.mk [109, 97, 114, 103, 105, 110, 45, 98, 111, 116, 116, 111, 109] false y46 kL0 kL1 false), (TProp.mk [109, 97, 114, 103, 105, 110, 45, 108, 101, 102, 116] false y49 kL0 kL1 false), (TProp.mk [102, 111, 110, 116, 45, 115, 105, 122, 101] true y52 [] kL1 true), (TProp.mk [108, 105, 110, 101, 45, 104, 101, 105, 103, 104, 116] true y53 kL4 q64 true), (TProp.mk [116, 101, 120, 116, 45, 97, 108, 105, 103, 110] true y66 kL5 [] false), (TProp.mk [111, 112, 97, 99, 105, 116, 121] false (TVal.mk 5 [] 1000 (TColor.mk 0 0 0 0)) [] ([5] : List Int) false), (TProp.mk [122, 45, 105, 110, 100, 101, 120] false (TVal.mk 1 [97, 117, 116, 111] 0 (TColor.mk 0 0 0 0)) kL0 ([6] : List Int) false), (TProp.mk [111, 114, 100, 101, 114] false (TVal.mk 6 [] 0 (TColor.mk 0 0 0 0)) [] ([6] : List Int) false)] : List TProp) [gL [Gh.nil, g10], gL [Gh.nil, g10], gL [Gh.nil, g10], gL [Gh.nil, g10], gL [(yg29 14 0), Gh.nil], gL [(yg29 17 0), Gh.nil], gL [(yg29 20 0), g16], gL [(yg29 24 0), g16], gL [(yg29 28 0), g16], gL [(yg29 32 0), g16], gL [(yg29 36 0), g16], gL [(yg29 40 0), g16], gL [Gh.nil, g16], gL [(yg29 47 0), (yg29 52 0)], gL [(yg29 55 0), Gh.nil], gL [Gh.nil, (yg29 58 0)], gL [(yg29 61 0), (yg29 62 0)], gL [Gh.nil, (yg29 65 0)]] _ H hd rfl (by kernel_rfl) (by kernel_rfl) (by kernel_rfl) (by kernel_rfl) (by kernel_rfl) (by kernel_rfl) (by kernel_rfl) rfl (InnL.cons (tyProp_mk SlG.nil (hd.im 0 rfl)) (InnL.cons (tyProp_mk SlG.nil (hd.im 0 rfl)) (InnL.cons (tyProp_mk SlG.nil (hd.im 0 rfl)) (InnL.cons (tyProp_mk SlG.nil (hd.im 0 rfl)) (InnL.cons (tyProp_mk (hd.im 1 rfl) SlG.nil) (InnL.cons (tyProp_mk (hd.im 2 rfl) SlG.nil) (InnL.cons (tyProp_mk (hd.im 3 rfl) (hd.im 4 rfl)) (InnL.cons (tyProp_mk (hd.im 5 rfl) (hd.im 4 rfl)) (InnL.cons (tyProp_mk (hd.im 6 rfl) (hd.im 4 rfl)) (InnL.cons (tyProp_mk (hd.im 7 rfl) (hd.im 4 rfl)) (InnL.cons (tyProp_mk (hd.im 8 rfl) (hd.im 4 rfl)) (InnL.cons (tyProp_mk (hd.im 9 rfl) (hd.im 4 rfl)) (InnL.cons (tyProp_mk SlG.nil (hd.im 4 rfl)) (InnL.cons (tyProp_mk (hd.im 10 rfl) (hd.im 11 rfl)) (InnL.cons (tyProp_mk (hd.im 12 rfl) SlG.nil) (InnL.cons (tyProp_mk SlG.nil (hd.im 13 rfl)) (InnL.cons (tyProp_mk (hd.im 14 rfl) (hd.im 15 rfl)) (InnL.cons (tyProp_mk SlG.nil (hd.im 16 rfl)) InnL.nil))))))))))))))))))) ?_
   rintro v w2 hq
   obtain ⟨g77, rfl, hq⟩ := hq
   replace hS : SH M X w [eO 100 tyProp ([(TProp.mk [99, 111, 108, 111, 114] true (TVal.mk 7 [] 0 (TColor.mk 0 0 0 255)) [] ([7, 8] : List Int) false), (TProp.mk [98, 97, 99, 107, 103, 114, 111, 117, 110, 100, 45, 99, 111, 108, 111, 114] false (TVal.mk 7 [] 0 (TColor.mk 0 0 0 0)) [] ([7, 8] : List Int) false), (TProp.mk [98, 111, 114, 100, 101, 114, 45, 99, 111, 108, 111, 114] false (TVal.mk 8 [] 0 (TColor.mk 0 0 0 0)) [] ([7, 8] : List Int) false), (TProp.mk [111, 117, 116, 108, 105, 110, 101, 45, 99, 111, 108, 111, 114] false (TVal.mk 8 [] 0 (TColor.mk 0 0 0 0)) [] ([7, 8] : List Int) false), (TProp.mk [100, 105, 115, 112, 108, 97, 121] false y30 kL2 [] false), (TProp.mk [118, 105, 115, 105, 98, 105, 108, 105, 116, 121] true y33 kL3 [] false), (TProp.mk [119, 105, 100, 116, 104] false (TVal.mk 1 [97, 117, 116, 111] 0 (TColor.mk 0 0 0 0)) kL0 kL1 true), (TProp.mk [104, 101, 105, 103, 104, 116] false (TVal.mk 1 [97, 117, 116, 111] 0 (TColor.mk 0 0 0 0)) kL0 kL1 true), (TProp.mk [109, 97, 114, 103, 105, 110, 45, 116, 111, 112] false y40 kL0 kL1 false), (TProp.mk [109, 97, 114, 103, 105, 110, 45, 114, 105, 103, 104, 116] false y43 kL0 kL1 false), (TProp.mk [109, 97, 114, 103, 105, 110, 45, 98, 111, 116, 116, 111, 109] false y46 kL0 kL1 false), (TProp.mk [109, 97, 114, 103, 105, 110, 45, 108, 101, 102, 116] false y49 kL0 kL1 false), (TProp.mk [102, 111, 110, 116, 45, 115, 105, 122, 101] true y52 [] kL1 true), (TProp.mk [108, 105, 110, 101, 45, 104, 101, 105, 103, 104, 116] true y53 kL4 q64 true), (TProp.mk [116, 101, 120, 116, 45, 97, 108, 105, 103, 110] true y66 kL5 [] false), (TProp.mk [111, 112, 97, 99, 105, 116, 121] false (TVal.mk 5 [] 1000 (TColor.mk 0 0 0 0)) [] ([5] : List Int) false), (TProp.mk [122, 45, 105, 110, 100, 101, 120] false (TVal.mk 1 [97, 117, 116, 111] 0 (TColor.mk 0 0 0 0)) kL0 ([6] : List Int) false), (TProp.mk [111, 114, 100, 101, 114] false (TVal.mk 6 [] 0 (TColor.mk 0 0 0 0)) [] ([6] : List Int) false)] : List TProp) g77, eI (tI .u8) ([6] : List Int) (yg29 65 0), eI (tI .u8) ([6] : List Int) (yg29 62 0), eI tS kL0 (yg29 61 0), eI (tI .u8) ([5] : List Int) (yg29 58 0), eI tS kL5 (yg29 55 0), eI (tI .u8) q64 (yg29 52 0), eI tS kL4 (yg29 47 0), eI tS kL0 (yg29 40 0), eI tS kL0 (yg29 36 0), eI tS kL0 (yg29 32 0), eI tS kL0 (yg29 28 0), eI tS kL0 (yg29 24 0), eI (tI .u8) kL1 g16, eI tS kL0 (yg29 20 0), eI tS kL3 (yg29 17 0), eI tS kL2 (yg29 14 0), eI (tI .u8) ([7, 8] : List Int) g10] _ := hS.join [16, 15, 14, 13, 12, 11, 10, 9, 8, 7, 6, 5, 4, 3, 2, 1, 0] [0, 1, 2, 3, 4, 5, 6, 7, 8, 9, 10, 11, 12, 13, 14, 15, 16] rfl rfl hq
   clear hq
   rw [hX] at hS
   exact ⟨gL [g77, g16, g10], fun _ _ => rfl, hS.sel [0, 1, 2, 3, 4, 5, 6, 7, 8, 9, 10, 11, 12, 13, 14, 15, 16, 17] rfl⟩
  ·intro o ho a w yg29 M Hb hv hO hS
   obtain rfl := someE ho
   exact Stp.mono (o_evs [] (vK (yg29 67 0) 18) none [] ((Hb).add (hv 67 (by decide) (by decide) 76 rfl)) rfl (by kernel_rfl) (fun q e => by cases e)) fun _ _ hq => ⟨gL [], fun _ _ => hq.1, (hS.below hq.2.below).sel [0, 1, 2, 3, 4, 5, 6, 7, 8, 9, 10, 11, 12, 13, 14, 15, 16, 17] rfl⟩
 have H81 : Fr 77 [(0, [], vK (yg29 67 0) 18)] _ := (FrG.add (FrG.keep (ks := []) H80 (by kernel_rfl)) (hv 68 0 rfl))
 replace hS : SH M X w [eO 5 (tI .u8) ([5] : List Int) (yg29 51 0), eO 100 tyProp ([(TProp.mk [99, 111, 108, 111, 114] true (TVal.mk 7 [] 0 (TColor.mk 0 0 0 255)) [] ([7, 8] : List Int) false), (TProp.mk [98, 97, 99, 107, 103, 114, 111, 117, 110, 100, 45, 99, 111, 108, 111, 114] false (TVal.mk 7 [] 0 (TColor.mk 0 0 0 0)) [] ([7, 8] : List Int) false), (TProp.mk [98, 111, 114, 100, 101, 114, 45, 99, 111, 108, 111, 114] false (TVal.mk 8 [] 0 (TColor.mk 0 0 0 0)) [] ([7, 8] : List Int) false), (TProp.mk [111, 117, 116, 108, 105, 110, 101, 45, 99, 111, 108, 111, 114] false (TVal.mk 8 [] 0 (TColor.mk 0 0 0 0)) [] ([7, 8] : List Int) false), (TProp.mk [100, 105, 115, 112, 108, 97, 121] false y30 kL2 [] false), (TProp.mk [118, 105, 115, 105, 98, 105, 108, 105, 116, 121] true y33 kL3 [] false), (TProp.mk [119, 105, 100, 116, 104] false (TVal.mk 1 [97, 117, 116, 111] 0 (TColor.mk 0 0 0 0)) kL0 kL1 true), (TProp.mk [104, 101, 105, 103, 104, 116] false (TVal.mk 1 [97, 117, 116, 111] 0 (TColor.mk 0 0 0 0)) kL0 kL1 true), (TProp.mk [109, 97, 114, 103, 105, 110, 45, 116, 111, 112] false y40 kL0 kL1 false), (TProp.mk [109, 97, 114, 103, 105, 110, 45, 114, 105, 103, 104, 116] false y43 kL0 kL1 false), (TProp.mk [109, 97, 114, 103, 105, 110, 45, 98, 111, 116, 116, 111, 109] false y46 kL0 kL1 false), (TProp.mk [109, 97, 114, 103, 105, 110, 45, 108, 101, 102, 116] false y49 kL0 kL1 false), (TProp.mk [102, 111, 110, 116, 45, 115, 105, 122, 101] true y52 [] kL1 true), (TProp.mk [108, 105, 110, 101, 45, 104, 101, 105, 103, 104, 116] true y53 kL4 q64 true), (TProp.mk [116, 101, 120, 116, 45, 97, 108, 105, 103, 110] true y66 kL5 [] false), (TProp.mk [111, 112, 97, 99, 105, 116, 121] false (TVal.mk 5 [] 1000 (TColor.mk 0 0 0 0)) [] ([5] : List Int) false), (TProp.mk [122, 45, 105, 110, 100, 101, 120] false (TVal.mk 1 [97, 117, 116, 111] 0 (TColor.mk 0 0 0 0)) kL0 ([6] : List Int) false), (TProp.mk [111, 114, 100, 101, 114] false (TVal.mk 6 [] 0 (TColor.mk 0 0 0 0)) [] ([6] : List Int) false)] : List TProp) (yg29 67 0), eI (tI .u8) ([6] : List Int) (yg29 65 0), eI (tI .u8) ([6] : List Int) (yg29 62 0), eI tS kL0 (yg29 61 0), eI (tI .u8) ([5] : List Int) (yg29 58 0), eI tS kL5 (yg29 55 0), eI (tI .u8) q64 (yg29 52 0), eI tS kL4 (yg29 47 0), eI tS kL0 (yg29 40 0), eI tS kL0 (yg29 36 0), eI tS kL0 (yg29 32 0), eI tS kL0 (yg29 28 0), eI tS kL0 (yg29 24 0), eI (tI .u8) kL1 (yg29 67 1), eI tS kL0 (yg29 20 0), eI tS kL3 (yg29 17 0), eI tS kL2 (yg29 14 0), eI (tI .u8) ([7, 8] : List Int) (yg29 67 2), eB b24 [vU 1, vS [97, 117, 116, 111], vI 0, vU 0, vU 0, vU 0, vU 0], eB b5 [vU 8, vN, vI 0, vU 0, vU 0, vU 0, vU 0]] _ := hS
 clear hv H80
 generalize yg29 67 0 = g82 at H81 hS
 generalize yg29 51 0 = g83 at H81 hS
 generalize yg29 65 0 = g84 at H81 hS
 generalize yg29 62 0 = g85 at H81 hS
 generalize yg29 61 0 = g86 at H81 hS
 generalize yg29 58 0 = g87 at H81 hS
 generalize yg29 55 0 = g88 at H81 hS
 generalize yg29 52 0 = g89 at H81 hS
 generalize yg29 47 0 = g90 at H81 hS
 generalize yg29 40 0 = g91 at H81 hS
 generalize yg29 36 0 = g92 at H81 hS
 generalize yg29 32 0 = g93 at H81 hS
 generalize yg29 28 0 = g94 at H81 hS
 generalize yg29 24 0 = g95 at H81 hS
 generalize yg29 67 1 = g96 at H81 hS
 generalize yg29 20 0 = g97 at H81 hS
 generalize yg29 17 0 = g98 at H81 hS
 generalize yg29 14 0 = g99 at H81 hS
 generalize yg29 67 2 = g100 at H81 hS
 replace hS : SH M X w [eO 100 tyProp ([(TProp.mk [99, 111, 108, 111, 114] true (TVal.mk 7 [] 0 (TColor.mk 0 0 0 255)) [] ([7, 8] : List Int) false), (TProp.mk [98, 97, 99, 107, 103, 114, 111, 117, 110, 100, 45, 99, 111, 108, 111, 114] false (TVal.mk 7 [] 0 (TColor.mk 0 0 0 0)) [] ([7, 8] : List Int) false), (TProp.mk [98, 111, 114, 100, 101, 114, 45, 99, 111, 108, 111, 114] false (TVal.mk 8 [] 0 (TColor.mk 0 0 0 0)) [] ([7, 8] : List Int) false), (TProp.mk [111, 117, 116, 108, 105, 110, 101, 45, 99, 111, 108, 111, 114] false (TVal.mk 8 [] 0 (TColor.mk 0 0 0 0)) [] ([7, 8] : List Int) false), (TProp.mk [100, 105, 115, 112, 108, 97, 121] false y30 kL2 [] false), (TProp.mk [118, 105, 115, 105, 98, 105, 108, 105, 116, 121] true y33 kL3 [] false), (TProp.mk [119, 105, 100, 116, 104] false (TVal.mk 1 [97, 117, 116, 111] 0 (TColor.mk 0 0 0 0)) kL0 kL1 true), (TProp.mk [104, 101, 105, 103, 104, 116] false (TVal.mk 1 [97, 117, 116, 111] 0 (TColor.mk 0 0 0 0)) kL0 kL1 true), (TProp.mk [109, 97, 114, 103, 105, 110, 45, 116, 111, 112] false y40 kL0 kL1 false), (TProp.mk [109, 97, 114, 103, 105, 110, 45, 114, 105, 103, 104, 116] false y43 kL0 kL1 false), (TProp.mk [109, 97, 114, 103, 105, 110, 45, 98, 111, 116, 116, 111, 109] false y46 kL0 kL1 false), (TProp.mk [109, 97, 114, 103, 105, 110, 45, 108, 101, 102, 116] false y49 kL0 kL1 false), (TProp.mk [102, 111, 110, 116, 45, 115, 105, 122, 101] true y52 [] kL1 true), (TProp.mk [108, 105, 110, 101, 45, 104, 101, 105, 103, 104, 116] true y53 kL4 q64 true), (TProp.mk [116, 101, 120, 116, 45, 97, 108, 105, 103, 110] true y66 kL5 [] false), (TProp.mk [111, 112, 97, 99, 105, 116, 121] false (TVal.mk 5 [] 1000 (TColor.mk 0 0 0 0)) [] ([5] : List Int) false), (TProp.mk [122, 45, 105, 110, 100, 101, 120] false (TVal.mk 1 [97, 117, 116, 111] 0 (TColor.mk 0 0 0 0)) kL0 ([6] : List Int) false), (TProp.mk [111, 114, 100, 101, 114] false (TVal.mk 6 [] 0 (TColor.mk 0 0 0 0)) [] ([6] : List Int) false)] : List TProp) g82] _ := hS.sel [1] rfl
 apply w_ret
 obtain rfl := someE hm
 exact retR1 H81 rfl rfl ⟨_, rfl, g82, rfl, (hS.sel [0] rfl)⟩
theorem r25_Table_ok   (r : List TProp) (hm : r25_Table = some r) (M : Av) (w : World) (hS : S0 M [] w) : DoesX Tryz.prog 59 ⟨[]⟩ w (fun v w' => ∃ (g901 : Gh), v = vL g901 r ∧ SH M (fpl []) w [eO 100 tyProp r g901] w') := ⟨Tryz.call59 _, r25_Table_w M    r hm w hS⟩

theorem r25_Find_w  (M : Av) (m : Nat) (s : Str) (r : Int × Int) (hm : r25_Find m s = some r) (w : World) (hS : S0 M [] w) : Calls Tryz.prog 58 ⟨[vS s]⟩ w (fun e w' => ∃ v, e = .returned v ∧ v = vW [vI r.1, vI r.2] ∧ SH M (fpl []) w [] w') := by
 rw [r25_Find] at hm
 have hS0 : SH M (fpl []) w [] w := hS
 generalize hX : fpl [] = X at hS0 ⊢
 clear hS hX
 have hS := hS0
 clear hS0
 refine calls_entryP Tryz.func58 rfl Tryz.ntmps58 rfl fun _ H => ?_
 refine s_reg [] [0] [(0, [], vS s)] [] H (by kernel_rfl) trivial fun _ _ H2 hb => ?_
 replace hS := hS.below hb
 clear H hb
 apply w_seq
 apply wl_start
 obtain ⟨y3, hy3, hm⟩ := bindE hm
 have hd := hS.hand [] [] rfl rfl
 refine m_stp [6, 0] [(0, [], vS s)] H2 rfl rfl rfl rfl (o_callx H2 rfl rfl (r25_Table_ok _ hy3 _ _ hd)) (fun _ => rfl) fun _ _ v H7 hq => ?_
 clear H2 hd
 obtain ⟨g4, rfl, hq⟩ := hq
 replace hS : SH M X w [eO 100 tyProp y3 g4] _ := hS.join [] [] rfl rfl hq
 clear hq
 refine wl_batch 1 2 [] [0, 4] (fS [0, 4] [vS s, vL g4 y3]) [] H7 (by decide) (by kernel_rfl) trivial fun _ _ H9 hb => ?_
 replace hS := hS.below hb
 clear H7 hb
 apply wl_end rfl
 obtain ⟨z10, hz, hm_z10⟩ := bindE hm
 refine w_cut (fun a' w' => ∃ s_z10 : Unit, z10 = Sum.inr s_z10 ∧ Fr 21 [] a' ∧ SH M X w [eO 100 tyProp y3 g4] w') ?_ ?_
 ·replace hm := hz
  refine s_reg [] [0, 4, 5] (fS [0, 4, 5] [vS s, vL g4 y3, vI 0]) [] H9 (by kernel_rfl) trivial fun _ _ H12 hb => ?_
  replace hS := hS.below hb
  clear H9 hb
  apply w_block
  refine w_loop (fun kk a' w' => ∃ (v13 : Int), r25_Find_L1 m s y3 kk v13 = some _ ∧ Fr 21 (fS [0, 4, 5] [vS s, vL g4 y3, vI v13]) a' ∧ SH M X w [eO 100 tyProp y3 g4] w') ⟨_, 0, hm, FrG.keep (ks := [0, 4, 5]) H12 (by kernel_rfl), hS⟩ ?_
  clear hm H12 hS
  rintro kk _ _ ⟨v13, hm, H, hS⟩
  cases kk with
  | zero => exact noneE hm
  | succ kk =>
   rw [r25_Find_L1] at hm
   apply w_seq
   refine s_reg [] [0, 4, 5, 10] (fS [0, 4, 5, 10] [vS s, vL g4 y3, vI v13, vB (decide (v13 < (ln y3)))]) [] H (by kernel_rfl) trivial fun _ _ H15 hb => ?_
   replace hS := hS.below hb
   clear H hb
   refine w_if H15 rfl (fun hc => ?_) (fun hc => ?c24)
   case c24 =>
    replace hm := bF hc hm
    apply w_exit rfl
    obtain rfl := someE hm
    exact ⟨_, rfl, FrG.keep (ks := []) H15 (by kernel_rfl), hS⟩
   replace hm := bT hc hm
   apply w_skip
   apply w_seq
   apply w_block
   obtain ⟨ho16, hm⟩ := chkE hm
   refine s_reg [(vS (gi y3 v13).Name)] [0, 4, 5, 19] (fS [0, 4, 5, 19] [vS s, vL g4 y3, vI v13, vB (((gi y3 v13).Name) == s)]) [fun _ => oka g4.a ∧ 0 ≤ v13 ∧ v13 < ln y3, fun wz => V.at1 ⟨ab g4.a, ao g4.a + (v13).toNat * 12, none⟩ (vS (gi y3 v13).Name) wz] H15 (by kernel_rfl) ⟨((hS.osl 0 rfl).oki ho16), ((hS.osl 0 rfl).at1 ho16 0 rfl), trivial⟩ fun _ _ H18 hb => ?_
   replace hS := hS.below hb
   clear H15 hb
   refine w_if H18 rfl (fun hc => ?_) (fun hc => ?c23)
   case c23 =>
    replace hm := bF hc hm
    apply w_skip
    refine w_reg [] [0, 4, 5] (fS [0, 4, 5] [vS s, vL g4 y3, vI (w64 (v13 + 1))]) [] H18 (by kernel_rfl) trivial fun _ _ H22 hb => ?_
    replace hS := hS.below hb
    clear H18 hb
    exact ⟨_, Nat.lt_succ_self _, w64 (v13 + 1), hm, FrG.keep (ks := [0, 4, 5]) H22 (by kernel_rfl), hS⟩
   replace hm := bT hc hm
   refine s_reg [] [2, 3] (fS [2, 3] [vI v13, vI 0]) [] H18 (by kernel_rfl) trivial fun _ _ H20 hb => ?_
   replace hS := hS.below hb
   clear H18 hb
   apply w_ret
   obtain rfl := someE hm
   have hm := hm_z10
   obtain rfl := someE hm
   exact retR2 H20 rfl rfl rfl ⟨_, rfl, rfl, (hS.sel [] rfl)⟩
 ·rintro _ _ ⟨s_z10, hz, H, hS⟩
  subst hz
  replace hm := sumR hm_z10
  replace hS : SH M X w [] _ := hS.sel [] rfl
  refine s_reg [] [2, 3] (fS [2, 3] [vI 0, vI 6]) [] H (by kernel_rfl) trivial fun _ _ H27 hb => ?_
  replace hS := hS.below hb
  clear H hb
  apply w_ret
  obtain rfl := someE hm
  exact retR2 H27 rfl rfl rfl ⟨_, rfl, rfl, (hS.sel [] rfl)⟩
theorem r25_Find_ok  (m : Nat) (s : Str) (r : Int × Int) (hm : r25_Find m s = some r) : Ret Tryz.prog 58 ⟨[vS s]⟩ (vW [vI r.1, vI r.2]) := retP_of (Tryz.call58 _) (fun w h => r25_Find_w F0 m   s r hm w h)

theorem r25_Inherited_w  (M : Av) (m : Nat) (s : Str) (r : Bool × Int) (hm : r25_Inherited m s = some r) (w : World) (hS : S0 M [] w) : Calls Tryz.prog 33 ⟨[vS s]⟩ w (fun e w' => ∃ v, e = .returned v ∧ v = vW [vB r.1, vI r.2] ∧ SH M (fpl []) w [] w') := by
 rw [r25_Inherited] at hm
 have hS0 : SH M (fpl []) w [] w := hS
 generalize hX : fpl [] = X at hS0 ⊢
 clear hS hX
 have hS := hS0
 clear hS0
 refine calls_entryP Tryz.func33 rfl Tryz.ntmps33 rfl fun _ H => ?_
 refine s_reg [] [0] [(0, [], vS s)] [] H (by kernel_rfl) trivial fun _ _ H2 hb => ?_
 replace hS := hS.below hb
 clear H hb
 apply w_seq
 obtain ⟨y3, hy3, hm⟩ := bindE hm
 refine s_reg [(vB y3)] [0, 7] (fS [0, 7] [vS s, vB y3]) [rB 57 [vS s] (vB y3)] H2 (by kernel_rfl) ⟨((r25_Custom_ok _ _ hy3).b), trivial⟩ fun _ _ H5 hb => ?_
 replace hS := hS.below hb
 clear H2 hb
 refine w_if H5 rfl (fun hc => ?c24) (fun hc => ?_)
 case c24 =>
  replace hm := bT hc hm
  refine s_reg [] [2, 3] (fS [2, 3] [vT, vI 0]) [] H5 (by kernel_rfl) trivial fun _ _ H7 hb => ?_
  replace hS := hS.below hb
  clear H5 hb
  apply w_ret
  obtain rfl := someE hm
  exact retR2 H7 rfl rfl rfl ⟨_, rfl, rfl, (hS.sel [] rfl)⟩
 replace hm := bF hc hm
 apply w_skip
 obtain ⟨y8, hy8, hm⟩ := bindE hm
 refine s_reg [(vW [vI y8.1, vI y8.2])] [4, 5] (fS [4, 5] [vI y8.1, vI y8.2]) [rB 58 [vS s] (vW [vI y8.1, vI y8.2])] H5 (by kernel_rfl) ⟨((r25_Find_ok 64 _ _ hy8).b), trivial⟩ fun _ _ H10 hb => ?_
 replace hS := hS.below hb
 clear H5 hb
 apply w_seq
 refine s_reg [] [4, 5, 14] (fS [4, 5, 14] [vI y8.1, vI y8.2, vB (y8.2 != 0)]) [] H10 (by kernel_rfl) trivial fun _ _ H12 hb => ?_
 replace hS := hS.below hb
 clear H10 hb
 refine w_if H12 rfl (fun hc => ?c23) (fun hc => ?_)
 case c23 =>
  replace hm := bT hc hm
  refine s_reg [] [2, 3] (fS [2, 3] [vF, vI y8.2]) [] H12 (by kernel_rfl) trivial fun _ _ H14 hb => ?_
  replace hS := hS.below hb
  clear H12 hb
  apply w_ret
  obtain rfl := someE hm
  exact retR2 H14 rfl rfl rfl ⟨_, rfl, rfl, (hS.sel [] rfl)⟩
 replace hm := bF hc hm
 apply w_skip
 apply w_seq
 apply wl_start
 obtain ⟨y15, hy15, hm⟩ := bindE hm
 have hd := hS.hand [] [] rfl rfl
 refine m_stp [16, 4] [(4, [], vI y8.1)] H12 rfl rfl rfl rfl (o_callx H12 rfl rfl (r25_Table_ok _ hy15 _ _ hd)) (fun _ => rfl) fun _ _ v H19 hq => ?_
 clear H12 hd
 obtain ⟨g16, rfl, hq⟩ := hq
 replace hS : SH M X w [eO 100 tyProp y15 g16] _ := hS.join [] [] rfl rfl hq
 clear hq
 obtain ⟨ho20, hm⟩ := chkE hm
 refine wl_batch 1 7 [(vB ((gi y15 y8.1).Inherited))] [2, 3] (fS [2, 3] [vB ((gi y15 y8.1).Inherited), vI 0]) [fun _ => oka g16.a ∧ 0 ≤ y8.1 ∧ y8.1 < ln y15, fun wz => V.at1 ⟨ab g16.a, ao g16.a + (y8.1).toNat * 12 + 1, none⟩ (vB ((gi y15 y8.1).Inherited)) wz] H19 (by decide) (by kernel_rfl) ⟨((hS.osl 0 rfl).oki ho20), ((hS.osl 0 rfl).at1 ho20 1 rfl), trivial⟩ fun _ _ H22 hb => ?_
 replace hS := hS.below hb
 clear H19 hb
 apply wl_end rfl
 replace hS : SH M X w [] _ := hS.sel [] rfl
 apply w_ret
 obtain rfl := someE hm
 exact retR2 H22 rfl rfl rfl ⟨_, rfl, rfl, (hS.sel [] rfl)⟩
theorem r25_Inherited_ok  (m : Nat) (s : Str) (r : Bool × Int) (hm : r25_Inherited m s = some r) : Ret Tryz.prog 33 ⟨[vS s]⟩ (vW [vB r.1, vI r.2]) := retP_of (Tryz.call33 _) (fun w h => r25_Inherited_w F0 m   s r hm w h)

theorem r27_Longs_w  (M : Av) (m : Nat) (name_ : Str) (r : (List Str) × Int) (hm : r27_Longs m name_ = some r) (w : World) (hS : S0 M [] w) : Calls Tryz.prog 10 ⟨[vS name_]⟩ w (fun e w' => ∃ v, e = .returned v ∧ ∃ (g901 : Gh), v = vW [vL g901 r.1, vI r.2] ∧ SH M (fpl []) w [eO 9 tS r.1 g901] w') := by
 rw [r27_Longs] at hm
 have hS0 : SH M (fpl []) w [] w := hS
 generalize hX : fpl [] = X at hS0 ⊢
 clear hS hX
 have hS := hS0
 clear hS0
 refine calls_entryP Tryz.func10 rfl Tryz.ntmps10 rfl fun _ H => ?_
 refine s_reg [] [0] [(0, [], vS name_)] [] H (by kernel_rfl) trivial fun _ _ H2 hb => ?_
 replace hS := hS.below hb
 clear H hb
 apply w_seq
 apply w_seq
 apply wl_start
 refine wl_batch 0 1 [] [0, 7] (fS [0, 7] [vS name_, vS name_]) [] H2 (by decide) (by kernel_rfl) trivial fun _ _ H4 hb => ?_
 replace hS := hS.below hb
 clear H2 hb
 obtain ⟨y5, hy5, hm⟩ := bindE hm
 have hd := hS.hand [] [] rfl rfl
 refine m_stp [8, 0] [(0, [], vS name_)] H4 rfl rfl rfl rfl (o_callx H4 rfl rfl (r27_longs_ok _ _ hy5 _ _ hd)) (fun _ => rfl) fun _ _ v H9 hq => ?_
 clear H4 hd
 obtain ⟨g6, rfl, hq⟩ := hq
 replace hS : SH M X w [eO 9 tS y5 g6] _ := hS.join [] [] rfl rfl hq
 clear hq
 refine wl_batch 2 3 [] [0, 4] (fS [0, 4] [vS name_, vL g6 y5]) [] H9 (by decide) (by kernel_rfl) trivial fun _ _ H11 hb => ?_
 replace hS := hS.below hb
 clear H9 hb
 apply wl_end rfl
 refine s_reg [] [0, 4, 11] (fS [0, 4, 11] [vS name_, vL g6 y5, vB (decide (0 < (ln y5)))]) [] H11 (by kernel_rfl) trivial fun _ _ H13 hb => ?_
 replace hS := hS.below hb
 clear H11 hb
 refine w_if H13 rfl (fun hc => ?c33) (fun hc => ?_)
 case c33 =>
  replace hm := bT hc hm
  refine s_reg [] [2, 3] (fS [2, 3] [vL g6 y5, vI 0]) [] H13 (by kernel_rfl) trivial fun _ _ H15 hb => ?_
  replace hS := hS.below hb
  clear H13 hb
  apply w_ret
  obtain rfl := someE hm
  exact retR2 H15 rfl rfl rfl ⟨_, rfl, g6, rfl, (hS.sel [0] rfl)⟩
 replace hm := bF hc hm
 apply w_skip
 apply w_seq
 obtain ⟨y16, hy16, hm⟩ := bindE hm
 refine s_reg [(vW [vB y16.1, vI y16.2])] [0, 6] (fS [0, 6] [vS name_, vI y16.2]) [rB 33 [vS name_] (vW [vB y16.1, vI y16.2])] H13 (by kernel_rfl) ⟨((r25_Inherited_ok 64 _ _ hy16).b), trivial⟩ fun _ _ H18 hb => ?_
 replace hS := hS.below hb
 clear H13 hb
 replace hS : SH M X w [] _ := hS.sel [] rfl
 refine s_reg [] [0, 19] (fS [0, 19] [vS name_, vB (y16.2 != 0)]) [] H18 (by kernel_rfl) trivial fun _ _ H20 hb => ?_
 replace hS := hS.below hb
 clear H18 hb
 refine w_if H20 rfl (fun hc => ?c32) (fun hc => ?_)
 case c32 =>
  replace hm := bT hc hm
  refine s_reg [] [2, 3] (fS [2, 3] [vO, vI 6]) [] H20 (by kernel_rfl) trivial fun _ _ H22 hb => ?_
  replace hS := hS.below hb
  clear H20 hb
  apply w_ret
  obtain rfl := someE hm
  replace hS : SH M X w [eO 9 tS ([] : List Str) (.nil)] _ := hS.addNil 9 tS
  exact retR2 H22 rfl rfl rfl ⟨_, rfl, Gh.nil, rfl, (hS.sel [0] rfl)⟩
 replace hm := bF hc hm
 apply w_skip
 apply w_seq
 apply wl_start
 refine wl_batch 0 1 [] [20] [(20, [], vS name_)] [] H20 (by decide) (by kernel_rfl) trivial fun _ _ H25 hb => ?_
 replace hS := hS.below hb
 clear H20 hb
 have hd := hS.hand [] [] rfl rfl
 refine m_stp [21] [] H25 rfl rfl rfl rfl (o_lit (T := tS) (E := 9) (zv := vN) [vS name_] ([name_] : List Str) [gL []] _ H25 hd rfl (by kernel_rfl) (by kernel_rfl) (by kernel_rfl) (by kernel_rfl) (by kernel_rfl) (by kernel_rfl) (by kernel_rfl) rfl (InnL.cons trivial InnL.nil)) (fun _ => rfl) fun _ _ v H29 hq => ?_
 clear H25 hd
 obtain ⟨g26, rfl, hq⟩ := hq
 replace hS : SH M X w [eO 9 tS ([name_] : List Str) g26] _ := hS.join [] [] rfl rfl hq
 clear hq
 refine wl_batch 2 4 [] [2, 3] (fS [2, 3] [vK g26 1, vI 0]) [] H29 (by decide) (by kernel_rfl) trivial fun _ _ H31 hb => ?_
 replace hS := hS.below hb
 clear H29 hb
 apply wl_end rfl
 apply w_ret
 obtain rfl := someE hm
 exact retR2 H31 rfl rfl rfl ⟨_, rfl, g26, rfl, (hS.sel [0] rfl)⟩
theorem r27_Longs_ok  (m : Nat) (name_ : Str) (r : (List Str) × Int) (hm : r27_Longs m name_ = some r) (M : Av) (w : World) (hS : S0 M [] w) : DoesX Tryz.prog 10 ⟨[vS name_]⟩ w (fun v w' => ∃ (g901 : Gh), v = vW [vL g901 r.1, vI r.2] ∧ SH M (fpl []) w [eO 9 tS r.1 g901] w') := ⟨Tryz.call10 _, r27_Longs_w M m   name_ r hm w hS⟩

theorem nest_closer_w  (M : Av) (kind : Int) (r : Int) (hm : nest_closer kind = r) (w : World) (hS : S0 M [] w) : Calls Tryz.prog 82 ⟨[vU kind]⟩ w (fun e w' => ∃ v, e = .returned v ∧ v = vU r ∧ SH M (fpl []) w [] w') := by
 rw [nest_closer] at hm
 have hS0 : SH M (fpl []) w [] w := hS
 generalize hX : fpl [] = X at hS0 ⊢
 clear hS hX
 have hS := hS0
 clear hS0
 refine calls_entryP Tryz.func82 rfl Tryz.ntmps82 rfl fun _ H => ?_
 refine s_reg [] [0] [(0, [], vU kind)] [] H (by kernel_rfl) trivial fun _ _ H2 hb => ?_
 replace hS := hS.below hb
 clear H hb
 apply w_seq
 refine s_reg [] [0, 3] (fS [0, 3] [vU kind, vU kind]) [] H2 (by kernel_rfl) trivial fun _ _ H4 hb => ?_
 replace hS := hS.below hb
 clear H2 hb
 apply w_block
 refine s_reg [] [0, 3, 4] (fS [0, 3, 4] [vU kind, vU kind, vB (kind == 2)]) [] H4 (by kernel_rfl) trivial fun _ _ H6 hb => ?_
 replace hS := hS.below hb
 clear H4 hb
 refine w_if H6 rfl (fun hc => ?c24) (fun hc => ?_)
 case c24 =>
  replace hm := bT hc hm
  refine s_reg [] [2] [(2, [], vU 22)] [] H6 (by kernel_rfl) trivial fun _ _ H8 hb => ?_
  replace hS := hS.below hb
  clear H6 hb
  apply w_ret
  subst hm
  exact retR1 H8 rfl rfl ⟨_, rfl, rfl, (hS.sel [] rfl)⟩
 replace hm := bF hc hm
 obtain ⟨z9, hz, hm⟩ := letE hm
 refine w_cut (fun a' w' => Fr 12 (fS [0, 6] [vU kind, vB z9]) a' ∧ SH M X w [] w') ?_ ?_
 ·replace hm := hz.symm
  refine s_reg [] [0, 3, 6] (fS [0, 3, 6] [vU kind, vU kind, vB (kind == 19)]) [] H6 (by kernel_rfl) trivial fun _ _ H11 hb => ?_
  replace hS := hS.below hb
  clear H6 hb
  refine w_if H11 rfl (fun hc => ?c17) (fun hc => ?_)
  case c17 =>
   replace hm := bT hc hm
   apply w_skip
   subst hm
   exact ⟨FrG.keep (ks := [0, 6]) H11 (by kernel_rfl), hS⟩
  replace hm := bF hc hm
  refine s_reg [] [0, 3, 6] (fS [0, 3, 6] [vU kind, vU kind, vB (kind == 21)]) [] H11 (by kernel_rfl) trivial fun _ _ H13 hb => ?_
  replace hS := hS.below hb
  clear H11 hb
  refine w_if H13 rfl (fun hc => ?c16) (fun hc => ?_)
  case c16 =>
   replace hm := bT hc hm
   apply w_skip
   subst hm
   exact ⟨FrG.keep (ks := [0, 6]) H13 (by kernel_rfl), hS⟩
  replace hm := bF hc hm
  refine w_reg [] [0, 6] (fS [0, 6] [vU kind, vB (kind == 23)]) [] H13 (by kernel_rfl) trivial fun _ _ H15 hb => ?_
  replace hS := hS.below hb
  clear H13 hb
  subst hm
  exact ⟨FrG.keep (ks := [0, 6]) H15 (by kernel_rfl), hS⟩
 ·rintro _ _ ⟨H, hS⟩
  refine w_if H rfl (fun hc => ?c22) (fun hc => ?_)
  case c22 =>
   replace hm := bT hc hm
   refine s_reg [] [2] [(2, [], vU (wu8 (kind + 1)))] [] H (by kernel_rfl) trivial fun _ _ H19 hb => ?_
   replace hS := hS.below hb
   clear H hb
   apply w_ret
   subst hm
   exact retR1 H19 rfl rfl ⟨_, rfl, rfl, (hS.sel [] rfl)⟩
  replace hm := bF hc hm
  apply w_skip
  refine s_reg [] [2] [(2, [], vU 0)] [] H (by kernel_rfl) trivial fun _ _ H21 hb => ?_
  replace hS := hS.below hb
  clear H hb
  apply w_ret
  subst hm
  exact retR1 H21 rfl rfl ⟨_, rfl, rfl, (hS.sel [] rfl)⟩
theorem nest_closer_ok  (kind : Int) : Ret Tryz.prog 82 ⟨[vU kind]⟩ (vU (nest_closer kind)) := retP_of (Tryz.call82 _) (fun w h => nest_closer_w F0   kind _ rfl w h)

def nest_look_S (rec_ : (List TValue) → Int → Option (Tnest_found)) : Prop := ∀ (g_v_ : Gh) (M : Av) (v_ : List TValue) (closes : Int) (r : Tnest_found), rec_ v_ closes = some r → ∀ w, S0 M [eI tyValue v_ g_v_] w → Calls Tryz.prog 60 ⟨[vL g_v_ v_, vU closes]⟩ w (fun e w' => ∃ v, e = .returned v ∧ v = vG [vI r.depth, vI r.tokens, vB r.bad] ∧ SH M (fpl [eI tyValue v_ g_v_]) w [] w')
theorem nest_look_w (m : Nat) : ∀ (k : Nat), nest_look_S (nest_look_r m  k) := by
 intro k
 induction k with
 | zero => intro g_v_ M v_ closes r hm; exact noneE hm
 | succ k ih =>
  intro g_v_ M v_ closes r hm w hS
  rw [nest_look_r] at hm
  have hS0 : SH M (fpl [eI tyValue v_ g_v_]) w [eI tyValue v_ g_v_] w := hS
  generalize hX : fpl [eI tyValue v_ g_v_] = X at hS0 ⊢
  clear hS hX
  have hS := hS0
  clear hS0
  refine calls_entryP Tryz.func60 rfl Tryz.ntmps60 rfl fun _ H => ?_
  apply w_seq
  apply wl_start
  have hd := hS.hand [] [0] rfl rfl
  refine m_stp [4, 0, 1] (fS [0, 1] [vL g_v_ v_, vU closes]) H rfl rfl rfl rfl (o_alloc [vI 0, vI 0, vF] (z := vG [vI 0, vI 0, vF]) hd (by kernel_rfl) rfl) (fun _ => rfl) fun _ _ v H3 hq => ?_
  clear H hd
  obtain ⟨b1, rfl, hq⟩ := hq
  replace hS : SH M X w [eB b1 [vI 0, vI 0, vF], eI tyValue v_ g_v_] _ := hS.join [] [0] rfl rfl hq
  clear hq
  apply wl_end rfl
  apply w_seq
  apply wl_start
  have hd := hS.hand [] [0, 1] rfl rfl
  refine m_stp [5, 0, 1, 4] (fS [0, 1, 4] [vL g_v_ v_, vU closes, vP b1]) H3 rfl rfl rfl rfl (o_alloc [vI 0, vI 0, vF] (z := vG [vI 0, vI 0, vF]) hd (by kernel_rfl) rfl) (fun _ => rfl) fun _ _ v H6 hq => ?_
  clear H3 hd
  obtain ⟨b4, rfl, hq⟩ := hq
  replace hS : SH M X w [eB b4 [vI 0, vI 0, vF], eB b1 [vI 0, vI 0, vF], eI tyValue v_ g_v_] _ := hS.join [] [0, 1] rfl rfl hq
  clear hq
  apply wl_end rfl
  obtain ⟨z7, hz, hm⟩ := bindE hm
  refine w_cut (fun a' w' => Fr 71 (fS [4, 5] [vP b1, vP b4]) a' ∧ SH M X w [eB b4 [vI z7.1, vI z7.2.1, vB z7.2.2], eB b1 [vI 0, vI 0, vF], eI tyValue v_ g_v_] w') ?_ ?_
  ·replace hm := hz
   refine s_reg [] [1, 4, 5, 10, 11, 12] (fS [1, 4, 5, 10, 11, 12] [vU closes, vP b1, vP b4, vL g_v_ v_, vI (ln v_), vI 0]) [] H6 (by kernel_rfl) trivial fun _ _ H9 hb => ?_
   replace hS := hS.below hb
   clear H6 hb
   apply w_block
   refine w_loop (fun kk a' w' => ∃ (v10 : Int) (v11 : Int) (v12 : Int) (v13 : Bool), nest_look_L1 m v_ closes (nest_look_r m k) kk v10 v11 v12 v13 = some _ ∧ Fr 71 (fS [1, 4, 5, 10, 11, 12] [vU closes, vP b1, vP b4, vL g_v_ v_, vI (ln v_), vI v10]) a' ∧ SH M X w [eB b4 [vI v11, vI v12, vB v13], eB b1 [vI 0, vI 0, vF], eI tyValue v_ g_v_] w') ⟨_, 0, 0, 0, false, hm, FrG.keep (ks := [1, 4, 5, 10, 11, 12]) H9 (by kernel_rfl), hS⟩ ?_
   clear hm H9 hS
   rintro kk _ _ ⟨v10, v11, v12, v13, hm, H, hS⟩
   cases kk with
   | zero => exact noneE hm
   | succ kk =>
    rw [nest_look_L1] at hm
    refine s_reg [] [1, 4, 5, 10, 11, 12, 13] (fS [1, 4, 5, 10, 11, 12, 13] [vU closes, vP b1, vP b4, vL g_v_ v_, vI (ln v_), vI v10, vB (decide (v10 < (ln v_)))]) [] H (by kernel_rfl) trivial fun _ _ H15 hb => ?_
    replace hS := hS.below hb
    clear H hb
    apply w_seq
    refine w_if H15 rfl (fun hc => ?_) (fun hc => ?c63)
    case c63 =>
     replace hm := bF hc hm
     apply w_exit rfl
     obtain rfl := someE hm
     exact ⟨FrG.keep (ks := [4, 5]) H15 (by kernel_rfl), hS⟩
    replace hm := bT hc hm
    apply w_skip
    obtain ⟨z16, hz, hm⟩ := bindE hm
    refine w_cut (fun a' w' => Fr 71 (fS [1, 4, 5, 10, 11, 12] [vU closes, vP b1, vP b4, vL g_v_ v_, vI (ln v_), vI v10]) a' ∧ SH M X w [eB b4 [vI z16.2.2, vI z16.1, vB z16.2.1], eB b1 [vI 0, vI 0, vF], eI tyValue v_ g_v_] w') ?_ ?_
    ·replace hm := hz
     apply w_block
     apply w_seq
     apply wl_start
     obtain ⟨ho17, hm⟩ := chkE hm
     refine wl_batch 0 2 [(vG [vU ((gi v_ v10).Token.Kind), vS (gi v_ v10).Token.Text, vI ((gi v_ v10).Token.Num), vS (gi v_ v10).Token.Unit, vB ((gi v_ v10).Token.Flag), .slice (g_v_.s (v10).toNat 0).a (((gi v_ v10).List_).length) (g_v_.s (v10).toNat 0).c])] [1, 4, 5, 10, 11, 12, 15] (fS [1, 4, 5, 10, 11, 12, 15] [vU closes, vP b1, vP b4, vL g_v_ v_, vI (ln v_), vI v10, vG [vU ((gi v_ v10).Token.Kind), vS (gi v_ v10).Token.Text, vI ((gi v_ v10).Token.Num), vS (gi v_ v10).Token.Unit, vB ((gi v_ v10).Token.Flag), .slice (g_v_.s (v10).toNat 0).a (((gi v_ v10).List_).length) (g_v_.s (v10).toNat 0).c]]) [fun _ => oka g_v_.a ∧ 0 ≤ v10 ∧ v10 < ln v_, fun wz => V.atN (ab g_v_.a) (ao g_v_.a + (v10).toNat * 6) [vU ((gi v_ v10).Token.Kind), vS (gi v_ v10).Token.Text, vI ((gi v_ v10).Token.Num), vS (gi v_ v10).Token.Unit, vB ((gi v_ v10).Token.Flag), .slice (g_v_.s (v10).toNat 0).a (((gi v_ v10).List_).length) (g_v_.s (v10).toNat 0).c] 0 wz] H15 (by decide) (by kernel_rfl) ⟨((hS.im 2 rfl).oki ho17), ((hS.im 2 rfl).atA ho17 0 rfl), trivial⟩ fun _ _ H19 hb => ?_
     replace hS := hS.below hb
     clear H15 hb
     have hd := hS.hand [] [0, 1, 2] rfl rfl
     refine m_stp [7, 1, 4, 5, 10, 11, 12, 15] (fS [1, 4, 5, 10, 11, 12, 15] [vU closes, vP b1, vP b4, vL g_v_ v_, vI (ln v_), vI v10, vG [vU ((gi v_ v10).Token.Kind), vS (gi v_ v10).Token.Text, vI ((gi v_ v10).Token.Num), vS (gi v_ v10).Token.Unit, vB ((gi v_ v10).Token.Flag), .slice (g_v_.s (v10).toNat 0).a (((gi v_ v10).List_).length) (g_v_.s (v10).toNat 0).c]]) H19 rfl rfl rfl rfl (o_alloc [vU 0, vN, vI 0, vN, vF, vO] (z := vG [vU 0, vN, vI 0, vN, vF, vO]) hd (by kernel_rfl) rfl) (fun _ => rfl) fun _ _ v H22 hq => ?_
     clear H19 hd
     obtain ⟨b20, rfl, hq⟩ := hq
     replace hS : SH M X w [eB b20 [vU 0, vN, vI 0, vN, vF, vO], eB b4 [vI v11, vI v12, vB v13], eB b1 [vI 0, vI 0, vF], eI tyValue v_ g_v_] _ := hS.join [] [0, 1, 2] rfl rfl hq
     clear hq
     have hd := hS.hand [0] [1, 2, 3] rfl rfl
     refine m_stp0 [1, 4, 5, 7, 10, 11, 12] (fS [1, 4, 5, 7, 10, 11, 12] [vU closes, vP b1, vP b4, vP b20, vL g_v_ v_, vI (ln v_), vI v10]) H22 rfl rfl rfl (o_store [vU ((gi v_ v10).Token.Kind), vS (gi v_ v10).Token.Text, vI ((gi v_ v10).Token.Num), vS (gi v_ v10).Token.Unit, vB ((gi v_ v10).Token.Flag), .slice (g_v_.s (v10).toNat 0).a (((gi v_ v10).List_).length) (g_v_.s (v10).toNat 0).c] H22 hd rfl rfl (by kernel_rfl) rfl rfl rfl) rfl fun _ _ H24 hq => ?_
     clear H22 hd
     obtain ⟨_, hq⟩ := hq
     replace hS : SH M X w [eB b20 [vU ((gi v_ v10).Token.Kind), vS (gi v_ v10).Token.Text, vI ((gi v_ v10).Token.Num), vS (gi v_ v10).Token.Unit, vB ((gi v_ v10).Token.Flag), .slice (g_v_.s (v10).toNat 0).a (((gi v_ v10).List_).length) (g_v_.s (v10).toNat 0).c], eB b4 [vI v11, vI v12, vB v13], eB b1 [vI 0, vI 0, vF], eI tyValue v_ g_v_] _ := hS.join [0] [1, 2, 3] rfl rfl hq
     clear hq
     apply wl_end rfl
     apply w_seq
     apply wl_start
     refine wl_batch 0 4 [(vI v12)] [1, 4, 5, 7, 10, 11, 12, 18, 19] (fS [1, 4, 5, 7, 10, 11, 12, 18, 19] [vU closes, vP b1, vP b4, vP b20, vL g_v_ v_, vI (ln v_), vI v10, vI (w64 (v12 + 1)), vA b4 1]) [rA b4 1 (vI v12)] H24 (by decide) (by kernel_rfl) ⟨((hS.bk 1 rfl).at1 rfl), trivial⟩ fun _ _ H26 hb => ?_
     replace hS := hS.below hb
     clear H24 hb
     have hd := hS.hand [1] [0, 2, 3] rfl rfl
     refine m_stp0 [1, 4, 5, 7, 10, 11, 12] (fS [1, 4, 5, 7, 10, 11, 12] [vU closes, vP b1, vP b4, vP b20, vL g_v_ v_, vI (ln v_), vI v10]) H26 rfl rfl rfl (o_store [vI v11, vI (w64 (v12 + 1)), vB v13] H26 hd rfl rfl (by kernel_rfl) rfl rfl rfl) rfl fun _ _ H28 hq => ?_
     clear H26 hd
     obtain ⟨_, hq⟩ := hq
     replace hS : SH M X w [eB b4 [vI v11, vI (w64 (v12 + 1)), vB v13], eB b20 [vU ((gi v_ v10).Token.Kind), vS (gi v_ v10).Token.Text, vI ((gi v_ v10).Token.Num), vS (gi v_ v10).Token.Unit, vB ((gi v_ v10).Token.Flag), .slice (g_v_.s (v10).toNat 0).a (((gi v_ v10).List_).length) (g_v_.s (v10).toNat 0).c], eB b1 [vI 0, vI 0, vF], eI tyValue v_ g_v_] _ := hS.join [1] [0, 2, 3] rfl rfl hq
     clear hq
     apply wl_end rfl
     refine s_reg [(vU ((gi v_ v10).Token.Kind)), (vU (nest_closer ((gi v_ v10).Token.Kind)))] [1, 4, 5, 7, 8, 10, 11, 12] (fS [1, 4, 5, 7, 8, 10, 11, 12] [vU closes, vP b1, vP b4, vP b20, vU (nest_closer ((gi v_ v10).Token.Kind)), vL g_v_ v_, vI (ln v_), vI v10]) [rA b20 0 (vU ((gi v_ v10).Token.Kind)), rB 82 [vU ((gi v_ v10).Token.Kind)] (vU (nest_closer ((gi v_ v10).Token.Kind)))] H28 (by kernel_rfl) ⟨((hS.bk 1 rfl).at1 rfl), ((nest_closer_ok _).b), trivial⟩ fun _ _ H30 hb => ?_
     replace hS := hS.below hb
     clear H28 hb
     obtain ⟨z31, hz, hm⟩ := bindE hm
     refine w_cut (fun a' w' => Fr 71 (fS [1, 4, 5, 7, 8, 10, 11, 12] [vU closes, vP b1, vP b4, vP b20, vU (nest_closer ((gi v_ v10).Token.Kind)), vL g_v_ v_, vI (ln v_), vI v10]) a' ∧ SH M X w [eB b4 [vI v11, vI (w64 (v12 + 1)), vB z31], eB b20 [vU ((gi v_ v10).Token.Kind), vS (gi v_ v10).Token.Text, vI ((gi v_ v10).Token.Num), vS (gi v_ v10).Token.Unit, vB ((gi v_ v10).Token.Flag), .slice (g_v_.s (v10).toNat 0).a (((gi v_ v10).List_).length) (g_v_.s (v10).toNat 0).c], eB b1 [vI 0, vI 0, vF], eI tyValue v_ g_v_] w') ?_ ?_
     ·replace hm := hz
      obtain ⟨x32, hx32, hm⟩ := letE hm
      obtain ⟨x33, hx33, hm⟩ := letE hm
      refine s_reg [(vU ((gi v_ v10).Token.Kind)), (.slice (g_v_.s (v10).toNat 0).a (((gi v_ v10).List_).length) (g_v_.s (v10).toNat 0).c)] [1, 4, 5, 7, 8, 10, 11, 12, 42] (fS [1, 4, 5, 7, 8, 10, 11, 12, 42] [vU closes, vP b1, vP b4, vP b20, vU (nest_closer ((gi v_ v10).Token.Kind)), vL g_v_ v_, vI (ln v_), vI v10, vB x33]) [fun wz => ((closes != 0) = true ∧ True → V.at1 ⟨b20, 0, none⟩ (vU ((gi v_ v10).Token.Kind)) wz), fun wz => (((nest_closer ((gi v_ v10).Token.Kind)) == 0) = true ∧ x32 = false ∧ True → V.at1 ⟨b20, 5, none⟩ (.slice (g_v_.s (v10).toNat 0).a (((gi v_ v10).List_).length) (g_v_.s (v10).toNat 0).c) wz)] H30 (by subst hx32 hx33; kernel_rfl) ⟨fun hg => (hS.bk 1 rfl).at1 rfl, fun hg => (hS.bk 1 rfl).at1 rfl, trivial⟩ fun _ _ H35 hb => ?_
      replace hS := hS.below hb
      clear H30 hb
      refine w_if H35 rfl (fun hc => ?_) (fun hc => ?c40)
      case c40 =>
       replace hm := bF hc hm
       apply w_skip
       obtain rfl := someE hm
       exact ⟨FrG.keep (ks := [1, 4, 5, 7, 8, 10, 11, 12]) H35 (by kernel_rfl), hS⟩
      replace hm := bT hc hm
      apply wl_start
      refine wl_batch 0 1 [] [1, 4, 5, 7, 8, 10, 11, 12, 43] (fS [1, 4, 5, 7, 8, 10, 11, 12, 43] [vU closes, vP b1, vP b4, vP b20, vU (nest_closer ((gi v_ v10).Token.Kind)), vL g_v_ v_, vI (ln v_), vI v10, vA b4 2]) [] H35 (by decide) (by kernel_rfl) trivial fun _ _ H37 hb => ?_
      replace hS := hS.below hb
      clear H35 hb
      have hd := hS.hand [0] [1, 2, 3] rfl rfl
      refine m_stp0 [1, 4, 5, 7, 8, 10, 11, 12] (fS [1, 4, 5, 7, 8, 10, 11, 12] [vU closes, vP b1, vP b4, vP b20, vU (nest_closer ((gi v_ v10).Token.Kind)), vL g_v_ v_, vI (ln v_), vI v10]) H37 rfl rfl rfl (o_store [vI v11, vI (w64 (v12 + 1)), vT] H37 hd rfl rfl (by kernel_rfl) rfl rfl rfl) rfl fun _ _ H39 hq => ?_
      clear H37 hd
      obtain ⟨_, hq⟩ := hq
      replace hS : SH M X w [eB b4 [vI v11, vI (w64 (v12 + 1)), vT], eB b20 [vU ((gi v_ v10).Token.Kind), vS (gi v_ v10).Token.Text, vI ((gi v_ v10).Token.Num), vS (gi v_ v10).Token.Unit, vB ((gi v_ v10).Token.Flag), .slice (g_v_.s (v10).toNat 0).a (((gi v_ v10).List_).length) (g_v_.s (v10).toNat 0).c], eB b1 [vI 0, vI 0, vF], eI tyValue v_ g_v_] _ := hS.join [0] [1, 2, 3] rfl rfl hq
      clear hq
      apply wl_end rfl
      obtain rfl := someE hm
      exact ⟨FrG.keep (ks := [1, 4, 5, 7, 8, 10, 11, 12]) H39 (by kernel_rfl), hS⟩
     ·rintro _ _ ⟨H, hS⟩
      apply w_seq
      obtain ⟨x41, hx41, hm⟩ := letE hm
      refine s_reg [] [1, 4, 5, 7, 8, 10, 11, 12, 45] (fS [1, 4, 5, 7, 8, 10, 11, 12, 45] [vU closes, vP b1, vP b4, vP b20, vU (nest_closer ((gi v_ v10).Token.Kind)), vL g_v_ v_, vI (ln v_), vI v10, vB x41]) [] H (by subst hx41; kernel_rfl) trivial fun _ _ H43 hb => ?_
      replace hS := hS.below hb
      clear H hb
      refine w_if H43 rfl (fun hc => ?c58) (fun hc => ?_)
      case c58 =>
       replace hm := bT hc hm
       apply w_exit rfl
       obtain rfl := someE hm
       replace hS : SH M X w [eB b4 [vI v11, vI (w64 (v12 + 1)), vB z31], eB b1 [vI 0, vI 0, vF], eI tyValue v_ g_v_] _ := hS.sel [0, 2, 3] rfl
       exact ⟨FrG.keep (ks := [1, 4, 5, 10, 11, 12]) H43 (by kernel_rfl), hS⟩
      replace hm := bF hc hm
      apply w_skip
      apply w_seq
      apply wl_start
      obtain ⟨y44, hy44, hm⟩ := bindE hm
      refine wl_batch 0 4 [(.slice (g_v_.s (v10).toNat 0).a (((gi v_ v10).List_).length) (g_v_.s (v10).toNat 0).c), (vG [vI y44.depth, vI y44.tokens, vB y44.bad])] [1, 4, 5, 10, 11, 12, 49] (fS [1, 4, 5, 10, 11, 12, 49] [vU closes, vP b1, vP b4, vL g_v_ v_, vI (ln v_), vI v10, vG [vI y44.depth, vI y44.tokens, vB y44.bad]]) [fun wz => V.at1 ⟨b20, 5, none⟩ (.slice (g_v_.s (v10).toNat 0).a (((gi v_ v10).List_).length) (g_v_.s (v10).toNat 0).c) wz, rB 60 [.slice (g_v_.s (v10).toNat 0).a (((gi v_ v10).List_).length) (g_v_.s (v10).toNat 0).c, vU (nest_closer ((gi v_ v10).Token.Kind))] (vG [vI y44.depth, vI y44.tokens, vB y44.bad])] H43 (by decide) (by kernel_rfl) ⟨((hS.bk 1 rfl).at1 rfl), (retB_of (s0im s0nil (tyValue_i0 ((hS.im 3 rfl).el ho17))) (Tryz.call60 _) (fun w' h' => ih ((g_v_.s (v10).toNat 0)) F0 _ _ _ hy44 w' h')), trivial⟩ fun _ _ H46 hb => ?_
      replace hS := hS.below hb
      clear H43 hb
      have hd := hS.hand [] [0, 1, 2, 3] rfl rfl
      refine m_stp [9, 1, 4, 5, 10, 11, 12, 49] (fS [1, 4, 5, 10, 11, 12, 49] [vU closes, vP b1, vP b4, vL g_v_ v_, vI (ln v_), vI v10, vG [vI y44.depth, vI y44.tokens, vB y44.bad]]) H46 rfl rfl rfl rfl (o_alloc [vI 0, vI 0, vF] (z := vG [vI 0, vI 0, vF]) hd (by kernel_rfl) rfl) (fun _ => rfl) fun _ _ v H49 hq => ?_
      clear H46 hd
      obtain ⟨b47, rfl, hq⟩ := hq
      replace hS : SH M X w [eB b47 [vI 0, vI 0, vF], eB b4 [vI v11, vI (w64 (v12 + 1)), vB z31], eB b20 [vU ((gi v_ v10).Token.Kind), vS (gi v_ v10).Token.Text, vI ((gi v_ v10).Token.Num), vS (gi v_ v10).Token.Unit, vB ((gi v_ v10).Token.Flag), .slice (g_v_.s (v10).toNat 0).a (((gi v_ v10).List_).length) (g_v_.s (v10).toNat 0).c], eB b1 [vI 0, vI 0, vF], eI tyValue v_ g_v_] _ := hS.join [] [0, 1, 2, 3] rfl rfl hq
      clear hq
      have hd := hS.hand [0] [1, 2, 3, 4] rfl rfl
      refine m_stp0 [1, 4, 5, 9, 10, 11, 12] (fS [1, 4, 5, 9, 10, 11, 12] [vU closes, vP b1, vP b4, vP b47, vL g_v_ v_, vI (ln v_), vI v10]) H49 rfl rfl rfl (o_store [vI y44.depth, vI y44.tokens, vB y44.bad] H49 hd rfl rfl (by kernel_rfl) rfl rfl rfl) rfl fun _ _ H51 hq => ?_
      clear H49 hd
      obtain ⟨_, hq⟩ := hq
      replace hS : SH M X w [eB b47 [vI y44.depth, vI y44.tokens, vB y44.bad], eB b4 [vI v11, vI (w64 (v12 + 1)), vB z31], eB b20 [vU ((gi v_ v10).Token.Kind), vS (gi v_ v10).Token.Text, vI ((gi v_ v10).Token.Num), vS (gi v_ v10).Token.Unit, vB ((gi v_ v10).Token.Flag), .slice (g_v_.s (v10).toNat 0).a (((gi v_ v10).List_).length) (g_v_.s (v10).toNat 0).c], eB b1 [vI 0, vI 0, vF], eI tyValue v_ g_v_] _ := hS.join [0] [1, 2, 3, 4] rfl rfl hq
      clear hq
      apply wl_end rfl
      replace hS : SH M X w [eB b47 [vI y44.depth, vI y44.tokens, vB y44.bad], eB b4 [vI v11, vI (w64 (v12 + 1)), vB z31], eB b1 [vI 0, vI 0, vF], eI tyValue v_ g_v_] _ := hS.sel [0, 1, 3, 4] rfl
      apply wl_start
      obtain ⟨x52, hx52, hm⟩ := letE hm
      obtain ⟨x53, hx53, hm⟩ := letE hm
      refine wl_batch 0 19 [(vI v11), (vI y44.depth), (vI (w64 (v12 + 1))), (vI y44.tokens), (vB z31), (vB y44.bad)] [1, 4, 5, 10, 11, 12, 68] (fS [1, 4, 5, 10, 11, 12, 68] [vU closes, vP b1, vP b4, vL g_v_ v_, vI (ln v_), vI v10, vG [vI x52, vI x53, vB (cond z31 true y44.bad)]]) [rA b4 0 (vI v11), rA b47 0 (vI y44.depth), rA b4 1 (vI (w64 (v12 + 1))), rA b47 1 (vI y44.tokens), rA b4 2 (vB z31), fun wz => (z31 = false ∧ True → V.at1 ⟨b47, 2, none⟩ (vB y44.bad) wz)] H51 (by decide) (by subst hx52 hx53; kernel_rfl) ⟨((hS.bk 1 rfl).at1 rfl), ((hS.bk 0 rfl).at1 rfl), ((hS.bk 1 rfl).at1 rfl), ((hS.bk 0 rfl).at1 rfl), ((hS.bk 1 rfl).at1 rfl), fun hg => (hS.bk 0 rfl).at1 rfl, trivial⟩ fun _ _ H55 hb => ?_
      replace hS := hS.below hb
      clear H51 hb
      have hd := hS.hand [1] [0, 2, 3] rfl rfl
      refine m_stp0 [1, 4, 5, 10, 11, 12] (fS [1, 4, 5, 10, 11, 12] [vU closes, vP b1, vP b4, vL g_v_ v_, vI (ln v_), vI v10]) H55 rfl rfl rfl (o_store [vI x52, vI x53, vB (cond z31 true y44.bad)] H55 hd rfl rfl (by kernel_rfl) rfl rfl rfl) rfl fun _ _ H57 hq => ?_
      clear H55 hd
      obtain ⟨_, hq⟩ := hq
      replace hS : SH M X w [eB b4 [vI x52, vI x53, vB (cond z31 true y44.bad)], eB b47 [vI y44.depth, vI y44.tokens, vB y44.bad], eB b1 [vI 0, vI 0, vF], eI tyValue v_ g_v_] _ := hS.join [1] [0, 2, 3] rfl rfl hq
      clear hq
      apply wl_end rfl
      replace hS : SH M X w [eB b4 [vI x52, vI x53, vB (cond z31 true y44.bad)], eB b1 [vI 0, vI 0, vF], eI tyValue v_ g_v_] _ := hS.sel [0, 2, 3] rfl
      obtain rfl := someE hm
      exact ⟨FrG.keep (ks := [1, 4, 5, 10, 11, 12]) H57 (by kernel_rfl), hS⟩
    ·rintro _ _ ⟨H, hS⟩
     refine w_reg [] [1, 4, 5, 10, 11, 12] (fS [1, 4, 5, 10, 11, 12] [vU closes, vP b1, vP b4, vL g_v_ v_, vI (ln v_), vI (w64 (v10 + 1))]) [] H (by kernel_rfl) trivial fun _ _ H61 hb => ?_
     replace hS := hS.below hb
     clear H hb
     exact ⟨_, Nat.lt_succ_self _, w64 (v10 + 1), z16.2.2, z16.1, z16.2.1, hm, FrG.keep (ks := [1, 4, 5, 10, 11, 12]) H61 (by kernel_rfl), hS⟩
  ·rintro _ _ ⟨H, hS⟩
   replace hS : SH M X w [eB b4 [vI z7.1, vI z7.2.1, vB z7.2.2], eB b1 [vI 0, vI 0, vF]] _ := hS.sel [0, 1] rfl
   apply w_seq
   apply wl_start
   refine wl_batch 0 1 [(vG [vI z7.1, vI z7.2.1, vB z7.2.2])] [4, 70] (fS [4, 70] [vP b1, vG [vI z7.1, vI z7.2.1, vB z7.2.2]]) [rN b4 0 [vI z7.1, vI z7.2.1, vB z7.2.2]] H (by decide) (by kernel_rfl) ⟨((hS.bk 0 rfl).atD rfl), trivial⟩ fun _ _ H66 hb => ?_
   replace hS := hS.below hb
   clear H hb
   have hd := hS.hand [1] [0] rfl rfl
   refine m_stp0 [4] [(4, [], vP b1)] H66 rfl rfl rfl (o_store [vI z7.1, vI z7.2.1, vB z7.2.2] H66 hd rfl rfl (by kernel_rfl) rfl rfl rfl) rfl fun _ _ H68 hq => ?_
   clear H66 hd
   obtain ⟨_, hq⟩ := hq
   replace hS : SH M X w [eB b1 [vI z7.1, vI z7.2.1, vB z7.2.2], eB b4 [vI z7.1, vI z7.2.1, vB z7.2.2]] _ := hS.join [1] [0] rfl rfl hq
   clear hq
   apply wl_end rfl
   replace hS : SH M X w [eB b1 [vI z7.1, vI z7.2.1, vB z7.2.2]] _ := hS.sel [0] rfl
   apply w_ret
   obtain rfl := someE hm
   exact retR1 H68 rfl (oneRes_agg rfl (hS.bk 0 rfl) Tryz.underlying107 rfl (by kernel_rfl)) ⟨_, rfl, rfl, (hS.sel [] rfl)⟩
theorem nest_look_ok {g_v_ : Gh} (m : Nat) (v_ : List TValue) (closes : Int) (r : Tnest_found) (hm : nest_look m v_ closes = some r) (w : World) (hL : S0 F0 [eI tyValue v_ g_v_] w ∧ fpl [eI tyValue v_ g_v_] = []) : RetB Tryz.prog 60 ⟨[vL g_v_ v_, vU closes]⟩ (vG [vI r.depth, vI r.tokens, vB r.bad]) w := retB_of hL (Tryz.call60 _) (fun w' h => nest_look_w m   m g_v_ F0 v_ closes r hm w' h)

theorem nest_Check_w {g_v_ : Gh} (M : Av) (m : Nat) (v_ : List TValue) (r : Int) (hm : nest_Check m v_ = some r) (w : World) (hS : S0 M [eI tyValue v_ g_v_] w) : Calls Tryz.prog 34 ⟨[vL g_v_ v_]⟩ w (fun e w' => ∃ v, e = .returned v ∧ v = vI r ∧ SH M (fpl [eI tyValue v_ g_v_]) w [] w') := by
 rw [nest_Check] at hm
 have hS0 : SH M (fpl [eI tyValue v_ g_v_]) w [eI tyValue v_ g_v_] w := hS
 generalize hX : fpl [eI tyValue v_ g_v_] = X at hS0 ⊢
 clear hS hX
 have hS := hS0
 clear hS0
 refine calls_entryP Tryz.func34 rfl Tryz.ntmps34 rfl fun _ H => ?_
 refine s_reg [] [0] [(0, [], vL g_v_ v_)] [] H (by kernel_rfl) trivial fun _ _ H2 hb => ?_
 replace hS := hS.below hb
 clear H hb
 apply w_seq
 apply w_seq
 apply wl_start
 obtain ⟨y3, hy3, hm⟩ := bindE hm
 refine wl_batch 0 2 [(vG [vI y3.depth, vI y3.tokens, vB y3.bad])] [5] [(5, [], vG [vI y3.depth, vI y3.tokens, vB y3.bad])] [rB 60 [vL g_v_ v_, vU 0] (vG [vI y3.depth, vI y3.tokens, vB y3.bad])] H2 (by decide) (by kernel_rfl) ⟨(nest_look_ok (g_v_ := g_v_) m _ _ _ hy3 _ (s0im s0nil (hS.im 0 rfl))), trivial⟩ fun _ _ H5 hb => ?_
 replace hS := hS.below hb
 clear H2 hb
 have hd := hS.hand [] [0] rfl rfl
 refine m_stp [3, 5] [(5, [], vG [vI y3.depth, vI y3.tokens, vB y3.bad])] H5 rfl rfl rfl rfl (o_alloc [vI 0, vI 0, vF] (z := vG [vI 0, vI 0, vF]) hd (by kernel_rfl) rfl) (fun _ => rfl) fun _ _ v H8 hq => ?_
 clear H5 hd
 obtain ⟨b6, rfl, hq⟩ := hq
 replace hS : SH M X w [eB b6 [vI 0, vI 0, vF], eI tyValue v_ g_v_] _ := hS.join [] [0] rfl rfl hq
 clear hq
 have hd := hS.hand [0] [1] rfl rfl
 refine m_stp0 [3] [(3, [], vP b6)] H8 rfl rfl rfl (o_store [vI y3.depth, vI y3.tokens, vB y3.bad] H8 hd rfl rfl (by kernel_rfl) rfl rfl rfl) rfl fun _ _ H10 hq => ?_
 clear H8 hd
 obtain ⟨_, hq⟩ := hq
 replace hS : SH M X w [eB b6 [vI y3.depth, vI y3.tokens, vB y3.bad], eI tyValue v_ g_v_] _ := hS.join [0] [1] rfl rfl hq
 clear hq
 apply wl_end rfl
 replace hS : SH M X w [eB b6 [vI y3.depth, vI y3.tokens, vB y3.bad]] _ := hS.sel [0] rfl
 apply w_block
 refine s_reg [(vI y3.depth)] [3, 6] (fS [3, 6] [vP b6, vB (decide (16 < y3.depth))]) [rA b6 0 (vI y3.depth)] H10 (by kernel_rfl) ⟨((hS.bk 0 rfl).at1 rfl), trivial⟩ fun _ _ H12 hb => ?_
 replace hS := hS.below hb
 clear H10 hb
 refine w_if H12 rfl (fun hc => ?c27) (fun hc => ?_)
 case c27 =>
  replace hm := bT hc hm
  refine s_reg [] [2] [(2, [], vI 20)] [] H12 (by kernel_rfl) trivial fun _ _ H14 hb => ?_
  replace hS := hS.below hb
  clear H12 hb
  replace hS : SH M X w [] _ := hS.sel [] rfl
  apply w_ret
  obtain rfl := someE hm
  exact retR1 H14 rfl rfl ⟨_, rfl, rfl, (hS.sel [] rfl)⟩
 replace hm := bF hc hm
 refine s_reg [(vI y3.tokens)] [3, 10] (fS [3, 10] [vP b6, vB (decide (1500 < y3.tokens))]) [rA b6 1 (vI y3.tokens)] H12 (by kernel_rfl) ⟨((hS.bk 0 rfl).at1 rfl), trivial⟩ fun _ _ H16 hb => ?_
 replace hS := hS.below hb
 clear H12 hb
 refine w_if H16 rfl (fun hc => ?c26) (fun hc => ?_)
 case c26 =>
  replace hm := bT hc hm
  refine s_reg [] [2] [(2, [], vI 4)] [] H16 (by kernel_rfl) trivial fun _ _ H18 hb => ?_
  replace hS := hS.below hb
  clear H16 hb
  replace hS : SH M X w [] _ := hS.sel [] rfl
  apply w_ret
  obtain rfl := someE hm
  exact retR1 H18 rfl rfl ⟨_, rfl, rfl, (hS.sel [] rfl)⟩
 replace hm := bF hc hm
 refine s_reg [(vB y3.bad)] [14] [(14, [], vB y3.bad)] [rA b6 2 (vB y3.bad)] H16 (by kernel_rfl) ⟨((hS.bk 0 rfl).at1 rfl), trivial⟩ fun _ _ H20 hb => ?_
 replace hS := hS.below hb
 clear H16 hb
 replace hS : SH M X w [] _ := hS.sel [] rfl
 refine w_if H20 rfl (fun hc => ?c25) (fun hc => ?_)
 case c25 =>
  replace hm := bT hc hm
  refine s_reg [] [2] [(2, [], vI 8)] [] H20 (by kernel_rfl) trivial fun _ _ H22 hb => ?_
  replace hS := hS.below hb
  clear H20 hb
  apply w_ret
  obtain rfl := someE hm
  exact retR1 H22 rfl rfl ⟨_, rfl, rfl, (hS.sel [] rfl)⟩
 replace hm := bF hc hm
 apply w_skip
 refine s_reg [] [2] [(2, [], vI 0)] [] H20 (by kernel_rfl) trivial fun _ _ H24 hb => ?_
 replace hS := hS.below hb
 clear H20 hb
 apply w_ret
 obtain rfl := someE hm
 exact retR1 H24 rfl rfl ⟨_, rfl, rfl, (hS.sel [] rfl)⟩
theorem nest_Check_ok {g_v_ : Gh} (m : Nat) (v_ : List TValue) (r : Int) (hm : nest_Check m v_ = some r) (w : World) (hL : S0 F0 [eI tyValue v_ g_v_] w ∧ fpl [eI tyValue v_ g_v_] = []) : RetB Tryz.prog 34 ⟨[vL g_v_ v_]⟩ (vI r) w := retB_of hL (Tryz.call34 _) (fun w' h => nest_Check_w F0 m   v_ r hm w' h)

theorem short_sides_w {g_l_ : Gh} (M : Av) (m : Nat) (l_ : List TValue) (r : List (List TValue)) (hm : short_sides m l_ = some r) (w : World) (hS : S0 M [eI tyValue l_ g_l_] w) : Calls Tryz.prog 61 ⟨[vL g_l_ l_]⟩ w (fun e w' => ∃ v, e = .returned v ∧ ∃ (g901 : Gh), v = vL g901 r ∧ SH M (fpl [eI tyValue l_ g_l_]) w [eO 22 (Ty.sl tyValue) r g901] w') := by
 rw [short_sides] at hm
 have hS0 : SH M (fpl [eI tyValue l_ g_l_]) w [eI tyValue l_ g_l_] w := hS
 generalize hX : fpl [eI tyValue l_ g_l_] = X at hS0 ⊢
 clear hS hX
 have hS := hS0
 clear hS0
 refine calls_entryP Tryz.func61 rfl Tryz.ntmps61 rfl fun _ H => ?_
 refine s_reg [] [0] [(0, [], vL g_l_ l_)] [] H (by kernel_rfl) trivial fun _ _ H2 hb => ?_
 replace hS := hS.below hb
 clear H hb
 apply w_seq
 obtain ⟨ho3, hm⟩ := chkE hm
 obtain ⟨x4, hx4, hm⟩ := letE hm
 obtain ⟨ho5, hm⟩ := chkE hm
 obtain ⟨x6, hx6, hm⟩ := letE hm
 refine s_reg [(vU ((gi l_ (0 : Int)).Token.Kind)), (vU ((gi l_ (w64 ((ln l_) - 1))).Token.Kind))] [0, 29] (fS [0, 29] [vL g_l_ l_, vB x6]) [fun _ => (((ln l_) == 0) = false ∧ True → oka g_l_.a ∧ 0 ≤ (0 : Int) ∧ (0 : Int) < ln l_), fun wz => (((ln l_) == 0) = false ∧ True → V.at1 ⟨ab g_l_.a, ao g_l_.a + ((0 : Int)).toNat * 6, none⟩ (vU ((gi l_ (0 : Int)).Token.Kind)) wz), fun _ => (x4 = false ∧ True → oka g_l_.a ∧ 0 ≤ (w64 ((ln l_) - 1)) ∧ (w64 ((ln l_) - 1)) < ln l_), fun wz => (x4 = false ∧ True → V.at1 ⟨ab g_l_.a, ao g_l_.a + ((w64 ((ln l_) - 1))).toNat * 6, none⟩ (vU ((gi l_ (w64 ((ln l_) - 1))).Token.Kind)) wz)] H2 (by subst hx4 hx6; kernel_rfl) ⟨fun hg => (hS.im 0 rfl).oki (ho3 hg.1), fun hg => (hS.im 0 rfl).at1 (ho3 hg.1) 0 rfl, fun hg => (hS.im 0 rfl).oki (ho5 hg.1), fun hg => (hS.im 0 rfl).at1 (ho5 hg.1) 0 rfl, trivial⟩ fun _ _ H8 hb => ?_
 replace hS := hS.below hb
 clear H2 hb
 refine w_if H8 rfl (fun hc => ?c125) (fun hc => ?_)
 case c125 =>
  replace hm := bT hc hm
  refine s_reg [] [2] [(2, [], vO)] [] H8 (by kernel_rfl) trivial fun _ _ H10 hb => ?_
  replace hS := hS.below hb
  clear H8 hb
  replace hS : SH M X w [] _ := hS.sel [] rfl
  apply w_ret
  obtain rfl := someE hm
  replace hS : SH M X w [eO 22 (Ty.sl tyValue) ([] : List (List TValue)) (.nil)] _ := hS.addNil 22 (Ty.sl tyValue)
  exact retR1 H10 rfl rfl ⟨_, rfl, Gh.nil, rfl, (hS.sel [0] rfl)⟩
 replace hm := bF hc hm
 apply w_skip
 refine s_reg [] [0, 3] (fS [0, 3] [vL g_l_ l_, vO]) [] H8 (by kernel_rfl) trivial fun _ _ H13 hb => ?_
 replace hS := hS.below hb
 clear H8 hb
 obtain ⟨z14, hz, hm_z14⟩ := bindE hm
 refine w_cut (fun a' w' => ∃ s_z14 : List (List TValue), z14 = Sum.inr s_z14 ∧ ∃ (g70 : Gh), Fr 84 [(3, [], vL g70 s_z14)] a' ∧ SH M X w [eO 22 (Ty.sl tyValue) s_z14 g70, eI tyValue l_ g_l_] w') ?_ ?_
 ·replace hm := hz
  refine s_reg [] [0, 3, 30, 31, 32] (fS [0, 3, 30, 31, 32] [vL g_l_ l_, vO, vL g_l_ l_, vI (ln l_), vI 0]) [] H13 (by kernel_rfl) trivial fun _ _ H16 hb => ?_
  replace hS := hS.below hb
  clear H13 hb
  apply w_block
  replace hS : SH M X w [eO 22 (Ty.sl tyValue) ([] : List (List TValue)) (.nil), eI tyValue l_ g_l_] _ := hS.addNil 22 (Ty.sl tyValue)
  refine w_loop (fun kk a' w' => ∃ (v18 : List (List TValue)) (v20 : Int) (g19 : Gh), short_sides_L1 m l_ kk v18 v20 = some _ ∧ Fr 84 (fS [0, 30, 31, 3, 32] [vL g_l_ l_, vL g_l_ l_, vI (ln l_), vL g19 v18, vI v20]) a' ∧ SH M X w [eO 22 (Ty.sl tyValue) v18 g19, eI tyValue l_ g_l_] w') ⟨_, ([] : List (List TValue)), 0, Gh.nil, hm, FrG.keep (ks := [0, 30, 31, 3, 32]) H16 (by kernel_rfl), hS⟩ ?_
  clear hm H16 hS
  rintro kk _ _ ⟨v18, v20, g19, hm, H, hS⟩
  cases kk with
  | zero => exact noneE hm
  | succ kk =>
   rw [short_sides_L1] at hm
   refine s_reg [] [0, 3, 30, 31, 32, 33] (fS [0, 3, 30, 31, 32, 33] [vL g_l_ l_, vL g19 v18, vL g_l_ l_, vI (ln l_), vI v20, vB (decide (v20 < (ln l_)))]) [] H (by kernel_rfl) trivial fun _ _ H22 hb => ?_
   replace hS := hS.below hb
   clear H hb
   apply w_seq
   refine w_if H22 rfl (fun hc => ?_) (fun hc => ?c68)
   case c68 =>
    replace hm := bF hc hm
    apply w_exit rfl
    obtain rfl := someE hm
    exact ⟨_, rfl, g19, FrG.keep (ks := [3]) H22 (by kernel_rfl), hS⟩
   replace hm := bT hc hm
   apply w_skip
   obtain ⟨z23, hz, hm_z23⟩ := bindE hm
   refine w_cut (fun a' w' => ∃ s_z23 : List (List TValue), z23 = Sum.inr s_z23 ∧ ∃ (g64 : Gh), Fr 84 (fS [0, 30, 31, 32, 3] [vL g_l_ l_, vL g_l_ l_, vI (ln l_), vI v20, vL g64 s_z23]) a' ∧ SH M X w [eO 22 (Ty.sl tyValue) s_z23 g64, eI tyValue l_ g_l_] w') ?_ ?_
   ·replace hm := hz
    apply w_block
    apply w_seq
    apply wl_start
    obtain ⟨ho24, hm⟩ := chkE hm
    refine wl_batch 0 3 [(vG [vU ((gi l_ v20).Token.Kind), vS (gi l_ v20).Token.Text, vI ((gi l_ v20).Token.Num), vS (gi l_ v20).Token.Unit, vB ((gi l_ v20).Token.Flag), .slice (g_l_.s (v20).toNat 0).a (((gi l_ v20).List_).length) (g_l_.s (v20).toNat 0).c])] [0, 3, 30, 31, 32, 34, 36] (fS [0, 3, 30, 31, 32, 34, 36] [vL g_l_ l_, vL g19 v18, vL g_l_ l_, vI (ln l_), vI v20, vI v20, vG [vU ((gi l_ v20).Token.Kind), vS (gi l_ v20).Token.Text, vI ((gi l_ v20).Token.Num), vS (gi l_ v20).Token.Unit, vB ((gi l_ v20).Token.Flag), .slice (g_l_.s (v20).toNat 0).a (((gi l_ v20).List_).length) (g_l_.s (v20).toNat 0).c]]) [fun _ => oka g_l_.a ∧ 0 ≤ v20 ∧ v20 < ln l_, fun wz => V.atN (ab g_l_.a) (ao g_l_.a + (v20).toNat * 6) [vU ((gi l_ v20).Token.Kind), vS (gi l_ v20).Token.Text, vI ((gi l_ v20).Token.Num), vS (gi l_ v20).Token.Unit, vB ((gi l_ v20).Token.Flag), .slice (g_l_.s (v20).toNat 0).a (((gi l_ v20).List_).length) (g_l_.s (v20).toNat 0).c] 0 wz] H22 (by decide) (by kernel_rfl) ⟨((hS.im 1 rfl).oki ho24), ((hS.im 1 rfl).atA ho24 0 rfl), trivial⟩ fun _ _ H26 hb => ?_
    replace hS := hS.below hb
    clear H22 hb
    have hd := hS.hand [] [0, 1] rfl rfl
    refine m_stp [5, 0, 3, 30, 31, 32, 34, 36] (fS [0, 3, 30, 31, 32, 34, 36] [vL g_l_ l_, vL g19 v18, vL g_l_ l_, vI (ln l_), vI v20, vI v20, vG [vU ((gi l_ v20).Token.Kind), vS (gi l_ v20).Token.Text, vI ((gi l_ v20).Token.Num), vS (gi l_ v20).Token.Unit, vB ((gi l_ v20).Token.Flag), .slice (g_l_.s (v20).toNat 0).a (((gi l_ v20).List_).length) (g_l_.s (v20).toNat 0).c]]) H26 rfl rfl rfl rfl (o_alloc [vU 0, vN, vI 0, vN, vF, vO] (z := vG [vU 0, vN, vI 0, vN, vF, vO]) hd (by kernel_rfl) rfl) (fun _ => rfl) fun _ _ v H29 hq => ?_
    clear H26 hd
    obtain ⟨b27, rfl, hq⟩ := hq
    replace hS : SH M X w [eB b27 [vU 0, vN, vI 0, vN, vF, vO], eO 22 (Ty.sl tyValue) v18 g19, eI tyValue l_ g_l_] _ := hS.join [] [0, 1] rfl rfl hq
    clear hq
    refine wl_batch 4 5 [] [0, 3, 4, 5, 30, 31, 32, 36] (fS [0, 3, 4, 5, 30, 31, 32, 36] [vL g_l_ l_, vL g19 v18, vI v20, vP b27, vL g_l_ l_, vI (ln l_), vI v20, vG [vU ((gi l_ v20).Token.Kind), vS (gi l_ v20).Token.Text, vI ((gi l_ v20).Token.Num), vS (gi l_ v20).Token.Unit, vB ((gi l_ v20).Token.Flag), .slice (g_l_.s (v20).toNat 0).a (((gi l_ v20).List_).length) (g_l_.s (v20).toNat 0).c]]) [] H29 (by decide) (by kernel_rfl) trivial fun _ _ H31 hb => ?_
    replace hS := hS.below hb
    clear H29 hb
    have hd := hS.hand [0] [1, 2] rfl rfl
    refine m_stp0 [0, 3, 4, 5, 30, 31, 32] (fS [0, 3, 4, 5, 30, 31, 32] [vL g_l_ l_, vL g19 v18, vI v20, vP b27, vL g_l_ l_, vI (ln l_), vI v20]) H31 rfl rfl rfl (o_store [vU ((gi l_ v20).Token.Kind), vS (gi l_ v20).Token.Text, vI ((gi l_ v20).Token.Num), vS (gi l_ v20).Token.Unit, vB ((gi l_ v20).Token.Flag), .slice (g_l_.s (v20).toNat 0).a (((gi l_ v20).List_).length) (g_l_.s (v20).toNat 0).c] H31 hd rfl rfl (by kernel_rfl) rfl rfl rfl) rfl fun _ _ H33 hq => ?_
    clear H31 hd
    obtain ⟨_, hq⟩ := hq
    replace hS : SH M X w [eB b27 [vU ((gi l_ v20).Token.Kind), vS (gi l_ v20).Token.Text, vI ((gi l_ v20).Token.Num), vS (gi l_ v20).Token.Unit, vB ((gi l_ v20).Token.Flag), .slice (g_l_.s (v20).toNat 0).a (((gi l_ v20).List_).length) (g_l_.s (v20).toNat 0).c], eO 22 (Ty.sl tyValue) v18 g19, eI tyValue l_ g_l_] _ := hS.join [0] [1, 2] rfl rfl hq
    clear hq
    apply wl_end rfl
    apply w_seq
    refine s_reg [(vU ((gi l_ v20).Token.Kind))] [0, 3, 4, 30, 31, 32, 40] (fS [0, 3, 4, 30, 31, 32, 40] [vL g_l_ l_, vL g19 v18, vI v20, vL g_l_ l_, vI (ln l_), vI v20, vB (((gi l_ v20).Token.Kind) == 13)]) [rA b27 0 (vU ((gi l_ v20).Token.Kind))] H33 (by kernel_rfl) ⟨((hS.bk 0 rfl).at1 rfl), trivial⟩ fun _ _ H35 hb => ?_
    replace hS := hS.below hb
    clear H33 hb
    replace hS : SH M X w [eO 22 (Ty.sl tyValue) v18 g19, eI tyValue l_ g_l_] _ := hS.sel [1, 2] rfl
    refine w_if H35 rfl (fun hc => ?c63) (fun hc => ?_)
    case c63 =>
     replace hm := bT hc hm
     apply w_exit rfl
     obtain rfl := someE hm
     exact ⟨_, rfl, g19, FrG.keep (ks := [0, 30, 31, 32, 3]) H35 (by kernel_rfl), hS⟩
    replace hm := bF hc hm
    apply w_skip
    apply w_seq
    obtain ⟨ho36, hm⟩ := chkE hm
    obtain ⟨x37, hx37, hm⟩ := letE hm
    refine s_reg [(vU ((gi l_ (w64 (v20 - 1))).Token.Kind))] [0, 3, 4, 30, 31, 32, 52] (fS [0, 3, 4, 30, 31, 32, 52] [vL g_l_ l_, vL g19 v18, vI v20, vL g_l_ l_, vI (ln l_), vI v20, vB x37]) [fun _ => ((decide (0 < v20)) = true ∧ True → oka g_l_.a ∧ 0 ≤ (w64 (v20 - 1)) ∧ (w64 (v20 - 1)) < ln l_), fun wz => ((decide (0 < v20)) = true ∧ True → V.at1 ⟨ab g_l_.a, ao g_l_.a + ((w64 (v20 - 1))).toNat * 6, none⟩ (vU ((gi l_ (w64 (v20 - 1))).Token.Kind)) wz)] H35 (by subst hx37; kernel_rfl) ⟨fun hg => (hS.im 1 rfl).oki (ho36 hg.1), fun hg => (hS.im 1 rfl).at1 (ho36 hg.1) 0 rfl, trivial⟩ fun _ _ H39 hb => ?_
    replace hS := hS.below hb
    clear H35 hb
    refine w_if H39 rfl (fun hc => ?c62) (fun hc => ?_)
    case c62 =>
     replace hm := bT hc hm
     refine s_reg [] [2] [(2, [], vO)] [] H39 (by kernel_rfl) trivial fun _ _ H41 hb => ?_
     replace hS := hS.below hb
     clear H39 hb
     apply w_ret
     obtain rfl := someE hm
     have hm := hm_z23
     obtain rfl := someE hm
     have hm := hm_z14
     obtain rfl := someE hm
     replace hS : SH M X w [eO 22 (Ty.sl tyValue) ([] : List (List TValue)) (.nil), eO 22 (Ty.sl tyValue) v18 g19, eI tyValue l_ g_l_] _ := hS.addNil 22 (Ty.sl tyValue)
     exact retR1 H41 rfl rfl ⟨_, rfl, Gh.nil, rfl, (hS.sel [0] rfl)⟩
    replace hm := bF hc hm
    apply w_skip
    apply wl_start
    refine wl_batch 0 5 [] [0, 30, 31, 32, 53, 54, 55, 57] (fS [0, 30, 31, 32, 53, 54, 55, 57] [vL g_l_ l_, vL g_l_ l_, vI (ln l_), vI v20, vL g19 v18, vL g_l_ l_, vI v20, vI (w64 (v20 + 1))]) [] H39 (by decide) (by kernel_rfl) trivial fun _ _ H44 hb => ?_
    replace hS := hS.below hb
    clear H39 hb
    obtain ⟨ho45, hm⟩ := chkE hm
    obtain ⟨q46, hq46, hm⟩ := letE hm
    have hd := hS.hand [1] [0, 1] rfl rfl
    refine m_stp [58, 0, 30, 31, 32, 53] (fS [0, 30, 31, 32, 53] [vL g_l_ l_, vL g_l_ l_, vI (ln l_), vI v20, vL g19 v18]) H44 rfl rfl rfl rfl (o_sub (T := tyValue) (E := 51) (g := g_l_) (q := l_) v20 (w64 (v20 + 1)) (.some (vI v20)) (.some (vI (w64 (v20 + 1)))) H44 hd (hd.im 0 rfl) rfl rfl rfl rfl rfl rfl (.inr ⟨_, rfl⟩) (.inr ⟨_, rfl⟩) (by kernel_rfl) (by kernel_rfl) ho45) (fun _ => rfl) fun _ _ v H48 hq => ?_
    clear H44 hd
    obtain ⟨g49, rfl, hq⟩ := hq
    rw [← hq46] at hq
    rw [← hq46] at H48
    replace hS : SH M X w [eI tyValue q46 g49, eI tyValue l_ g_l_, eO 22 (Ty.sl tyValue) v18 g19, eI tyValue l_ g_l_] _ := hS.join [1] [0, 1] rfl rfl hq
    clear hq
    have hd := hS.hand [0] [0, 1, 2, 3] rfl rfl
    refine m_stp [59, 0, 30, 31, 32, 53] (fS [0, 30, 31, 32, 53] [vL g_l_ l_, vL g_l_ l_, vI (ln l_), vI v20, vL g19 v18]) H48 rfl rfl rfl rfl (o_lit (T := (Ty.sl tyValue)) (E := 22) (zv := vO) [vL g49 q46] ([q46] : List (List TValue)) [gL [g49]] _ H48 hd rfl (by kernel_rfl) (by kernel_rfl) (by kernel_rfl) (by kernel_rfl) (by kernel_rfl) (by kernel_rfl) (by kernel_rfl) rfl (InnL.cons (hd.im 0 rfl) InnL.nil)) (fun _ => rfl) fun _ _ v H54 hq => ?_
    clear H48 hd
    obtain ⟨g51, rfl, hq⟩ := hq
    replace hS : SH M X w [eO 22 (Ty.sl tyValue) ([q46] : List (List TValue)) g51, eI tyValue q46 g49, eI tyValue l_ g_l_, eO 22 (Ty.sl tyValue) v18 g19, eI tyValue l_ g_l_] _ := hS.join [0] [0, 1, 2, 3] rfl rfl hq
    clear hq
    obtain ⟨ho55, hm⟩ := chkE hm
    obtain ⟨q56, hq56, hm⟩ := letE hm
    have hd := hS.hand [3, 0] [1, 2, 4] rfl rfl
    refine m_stp [60, 0, 30, 31, 32] (fS [0, 30, 31, 32] [vL g_l_ l_, vL g_l_ l_, vI (ln l_), vI v20]) H54 rfl rfl rfl rfl (o_app2 (T := (Ty.sl tyValue)) (zv := vO) (g1 := g19) (g2 := g51) (l1 := v18) (l2 := ([q46] : List (List TValue))) q56 hq56.symm H54 hd rfl rfl rfl rfl rfl rfl rfl (by kernel_rfl) (by kernel_rfl) rfl rfl ho55) (fun _ => rfl) fun _ _ v H58 hq => ?_
    clear H54 hd
    obtain ⟨g59, rfl, hq⟩ := hq
    replace hS : SH M X w [eO 22 (Ty.sl tyValue) q56 g59, eO 22 (Ty.sl tyValue) ([q46] : List (List TValue)) g51, eI tyValue q46 g49, eI tyValue l_ g_l_, eI tyValue l_ g_l_] _ := hS.join [3, 0] [1, 2, 4] rfl rfl hq
    clear hq
    refine wl_batch 8 9 [] [0, 3, 30, 31, 32] (fS [0, 3, 30, 31, 32] [vL g_l_ l_, vL g59 q56, vL g_l_ l_, vI (ln l_), vI v20]) [] H58 (by decide) (by kernel_rfl) trivial fun _ _ H61 hb => ?_
    replace hS := hS.below hb
    clear H58 hb
    apply wl_end rfl
    replace hS : SH M X w [eO 22 (Ty.sl tyValue) q56 g59, eI tyValue l_ g_l_] _ := hS.sel [0, 3] rfl
    obtain rfl := someE hm
    exact ⟨_, rfl, g59, FrG.keep (ks := [0, 30, 31, 32, 3]) H61 (by kernel_rfl), hS⟩
   ·rintro _ _ ⟨s_z23, hz, g64, H, hS⟩
    subst hz
    replace hm := sumR hm_z23
    refine w_reg [] [0, 3, 30, 31, 32] (fS [0, 3, 30, 31, 32] [vL g_l_ l_, vL g64 s_z23, vL g_l_ l_, vI (ln l_), vI (w64 (v20 + 1))]) [] H (by kernel_rfl) trivial fun _ _ H66 hb => ?_
    replace hS := hS.below hb
    clear H hb
    exact ⟨_, Nat.lt_succ_self _, s_z23, w64 (v20 + 1), g64, hm, FrG.keep (ks := [0, 30, 31, 3, 32]) H66 (by kernel_rfl), hS⟩
 ·rintro _ _ ⟨s_z14, hz, g70, H, hS⟩
  subst hz
  replace hm := sumR hm_z14
  replace hS : SH M X w [eO 22 (Ty.sl tyValue) s_z14 g70] _ := hS.sel [0] rfl
  apply w_seq
  refine s_reg [] [3, 64] (fS [3, 64] [vL g70 s_z14, vB (decide (4 < (ln s_z14)))]) [] H (by kernel_rfl) trivial fun _ _ H73 hb => ?_
  replace hS := hS.below hb
  clear H hb
  refine w_if H73 rfl (fun hc => ?c123) (fun hc => ?_)
  case c123 =>
   replace hm := bT hc hm
   refine s_reg [] [2] [(2, [], vO)] [] H73 (by kernel_rfl) trivial fun _ _ H75 hb => ?_
   replace hS := hS.below hb
   clear H73 hb
   replace hS : SH M X w [] _ := hS.sel [] rfl
   apply w_ret
   obtain rfl := someE hm
   replace hS : SH M X w [eO 22 (Ty.sl tyValue) ([] : List (List TValue)) (.nil)] _ := hS.addNil 22 (Ty.sl tyValue)
   exact retR1 H75 rfl rfl ⟨_, rfl, Gh.nil, rfl, (hS.sel [0] rfl)⟩
  replace hm := bF hc hm
  apply w_skip
  obtain ⟨z77, hz, hm⟩ := bindE hm
  refine w_cut (fun a' w' => ∃ (g119 : Gh), Fr 84 [(3, [], vL g119 z77)] a' ∧ SH M X w [eO 22 (Ty.sl tyValue) z77 g119] w') ?_ ?_
  ·replace hm := hz
   apply w_seq
   apply wl_start
   have hd := hS.hand [] [0] rfl rfl
   refine m_stp [65, 3] [(3, [], vL g70 s_z14)] H73 rfl rfl rfl rfl (o_lit (T := (tI .i64)) (E := 3) (zv := vI 0) [vI 0, vI 0, vI 1] kL9 [gL [], gL [], gL []] _ H73 hd rfl (by kernel_rfl) (by kernel_rfl) (by kernel_rfl) (by kernel_rfl) (by kernel_rfl) (by kernel_rfl) (by kernel_rfl) rfl (InnL.cons trivial (InnL.cons trivial (InnL.cons trivial InnL.nil)))) (fun _ => rfl) fun _ _ v H81 hq => ?_
   clear H73 hd
   obtain ⟨g78, rfl, hq⟩ := hq
   replace hS : SH M X w [eO 3 (tI .i64) kL9 g78, eO 22 (Ty.sl tyValue) s_z14 g70] _ := hS.join [] [0] rfl rfl hq
   clear hq
   refine wl_batch 1 4 [] [3, 65, 68] (fS [3, 65, 68] [vL g70 s_z14, vK g78 3, vI (w64 ((ln s_z14) - 1))]) [] H81 (by decide) (by kernel_rfl) trivial fun _ _ H83 hb => ?_
   replace hS := hS.below hb
   clear H81 hb
   replace hS : SH M X w [eI (tI .i64) kL9 g78, eO 22 (Ty.sl tyValue) s_z14 g70] _ := SH.frz1 (hS.sel [0, 1] rfl)
   obtain ⟨ho84, hm⟩ := chkE hm
   obtain ⟨q85, hq85, hm⟩ := letE hm
   have hd := hS.hand [0] [0, 1] rfl rfl
   refine m_stp [69, 3] [(3, [], vL g70 s_z14)] H83 rfl rfl rfl rfl (o_sub (T := (tI .i64)) (E := 3) (g := g78) (q := kL9) (w64 ((ln s_z14) - 1)) (ln kL9) (.some (vI (w64 ((ln s_z14) - 1)))) .none H83 hd (hd.im 0 rfl) rfl rfl rfl rfl rfl rfl (.inr ⟨_, rfl⟩) (.inl ⟨rfl, rfl⟩) (by kernel_rfl) (by kernel_rfl) ho84) (fun _ => rfl) fun _ _ v H87 hq => ?_
   clear H83 hd
   obtain ⟨g88, rfl, hq⟩ := hq
   rw [← hq85] at hq
   rw [← hq85] at H87
   replace hS : SH M X w [eI (tI .i64) q85 g88, eI (tI .i64) kL9 g78, eI (tI .i64) kL9 g78, eO 22 (Ty.sl tyValue) s_z14 g70] _ := hS.join [0] [0, 1] rfl rfl hq
   clear hq
   refine wl_batch 5 7 [] [3, 69, 70, 71] (fS [3, 69, 70, 71] [vL g70 s_z14, vL g88 q85, vI (ln q85), vI 0]) [] H87 (by decide) (by kernel_rfl) trivial fun _ _ H91 hb => ?_
   replace hS := hS.below hb
   clear H87 hb
   apply wl_end rfl
   replace hS : SH M X w [eI (tI .i64) q85 g88, eO 22 (Ty.sl tyValue) s_z14 g70] _ := hS.sel [0, 3] rfl
   apply w_block
   refine w_loop (fun kk a' w' => ∃ (v92 : List (List TValue)) (v94 : Int) (g93 : Gh), short_sides_L2 m q85 kk v92 v94 = some _ ∧ Fr 84 (fS [69, 70, 3, 71] [vL g88 q85, vI (ln q85), vL g93 v92, vI v94]) a' ∧ SH M X w [eI (tI .i64) q85 g88, eO 22 (Ty.sl tyValue) v92 g93] w') ⟨_, s_z14, 0, g70, hm, FrG.keep (ks := [69, 70, 3, 71]) H91 (by kernel_rfl), hS⟩ ?_
   clear hm H91 hS
   rintro kk _ _ ⟨v92, v94, g93, hm, H, hS⟩
   cases kk with
   | zero => exact noneE hm
   | succ kk =>
    rw [short_sides_L2] at hm
    refine s_reg [] [3, 69, 70, 71, 72] (fS [3, 69, 70, 71, 72] [vL g93 v92, vL g88 q85, vI (ln q85), vI v94, vB (decide (v94 < (ln q85)))]) [] H (by kernel_rfl) trivial fun _ _ H96 hb => ?_
    replace hS := hS.below hb
    clear H hb
    apply w_seq
    refine w_if H96 rfl (fun hc => ?_) (fun hc => ?c117)
    case c117 =>
     replace hm := bF hc hm
     apply w_exit rfl
     obtain rfl := someE hm
     replace hS : SH M X w [eO 22 (Ty.sl tyValue) v92 g93] _ := hS.sel [1] rfl
     exact ⟨g93, FrG.keep (ks := [3]) H96 (by kernel_rfl), hS⟩
    replace hm := bT hc hm
    apply w_skip
    apply w_seq
    apply w_block
    obtain ⟨ho97, hm⟩ := chkE hm
    refine s_reg [(vI (gi q85 v94))] [3, 7, 69, 70, 71] (fS [3, 7, 69, 70, 71] [vL g93 v92, vI (gi q85 v94), vL g88 q85, vI (ln q85), vI v94]) [fun _ => oka g88.a ∧ 0 ≤ v94 ∧ v94 < ln q85, fun wz => V.at1 ⟨ab g88.a, ao g88.a + (v94).toNat * 1, none⟩ (vI (gi q85 v94)) wz] H96 (by kernel_rfl) ⟨((hS.im 0 rfl).oki ho97), ((hS.im 0 rfl).at1 ho97 0 rfl), trivial⟩ fun _ _ H99 hb => ?_
    replace hS := hS.below hb
    clear H96 hb
    apply wl_start
    obtain ⟨ho100, hm⟩ := chkE hm
    refine wl_batch 0 5 [(.slice (g93.s ((gi q85 v94)).toNat 0).a ((gi v92 (gi q85 v94)).length) (g93.s ((gi q85 v94)).toNat 0).c)] [69, 70, 71, 75, 79] (fS [69, 70, 71, 75, 79] [vL g88 q85, vI (ln q85), vI v94, vL g93 v92, .slice (g93.s ((gi q85 v94)).toNat 0).a ((gi v92 (gi q85 v94)).length) (g93.s ((gi q85 v94)).toNat 0).c]) [fun _ => oka g93.a ∧ 0 ≤ (gi q85 v94) ∧ (gi q85 v94) < ln v92, fun wz => V.at1 ⟨ab g93.a, ao g93.a + ((gi q85 v94)).toNat * 1, none⟩ (.slice (g93.s ((gi q85 v94)).toNat 0).a ((gi v92 (gi q85 v94)).length) (g93.s ((gi q85 v94)).toNat 0).c) wz] H99 (by decide) (by kernel_rfl) ⟨((hS.osl 1 rfl).oki ho100), ((hS.osl 1 rfl).at1 ho100 0 rfl), trivial⟩ fun _ _ H102 hb => ?_
    replace hS := hS.below hb
    clear H99 hb
    replace hS : SH M X w [eI tyValue (gi v92 (gi q85 v94)) (g93.s ((gi q85 v94)).toNat 0), eI (tI .i64) q85 g88, eO 22 (Ty.sl tyValue) v92 g93] _ := hS.addIm (sl_inn ((hS.ow 1 rfl).el ho100))
    have hd := hS.hand [0] [0, 1, 2] rfl rfl
    refine m_stp [80, 69, 70, 71, 75] (fS [69, 70, 71, 75] [vL g88 q85, vI (ln q85), vI v94, vL g93 v92]) H102 rfl rfl rfl rfl (o_lit (T := (Ty.sl tyValue)) (E := 22) (zv := vO) [.slice (g93.s ((gi q85 v94)).toNat 0).a ((gi v92 (gi q85 v94)).length) (g93.s ((gi q85 v94)).toNat 0).c] ([(gi v92 (gi q85 v94))] : List (List TValue)) [gL [(g93.s ((gi q85 v94)).toNat 0)]] _ H102 hd rfl (by kernel_rfl) (by kernel_rfl) (by kernel_rfl) (by kernel_rfl) (by kernel_rfl) (by kernel_rfl) (by kernel_rfl) rfl (InnL.cons (hd.im 0 rfl) InnL.nil)) (fun _ => rfl) fun _ _ v H107 hq => ?_
    clear H102 hd
    obtain ⟨g103, rfl, hq⟩ := hq
    replace hS : SH M X w [eO 22 (Ty.sl tyValue) ([(gi v92 (gi q85 v94))] : List (List TValue)) g103, eI tyValue (gi v92 (gi q85 v94)) (g93.s ((gi q85 v94)).toNat 0), eI (tI .i64) q85 g88, eO 22 (Ty.sl tyValue) v92 g93] _ := hS.join [0] [0, 1, 2] rfl rfl hq
    clear hq
    obtain ⟨ho108, hm⟩ := chkE hm
    obtain ⟨q109, hq109, hm⟩ := letE hm
    have hd := hS.hand [3, 0] [1, 2] rfl rfl
    refine m_stp [81, 69, 70, 71] (fS [69, 70, 71] [vL g88 q85, vI (ln q85), vI v94]) H107 rfl rfl rfl rfl (o_app2 (T := (Ty.sl tyValue)) (zv := vO) (g1 := g93) (g2 := g103) (l1 := v92) (l2 := ([(gi v92 (gi q85 v94))] : List (List TValue))) q109 hq109.symm H107 hd rfl rfl rfl rfl rfl rfl rfl (by kernel_rfl) (by kernel_rfl) rfl rfl ho108) (fun _ => rfl) fun _ _ v H111 hq => ?_
    clear H107 hd
    obtain ⟨g112, rfl, hq⟩ := hq
    replace hS : SH M X w [eO 22 (Ty.sl tyValue) q109 g112, eO 22 (Ty.sl tyValue) ([(gi v92 (gi q85 v94))] : List (List TValue)) g103, eI tyValue (gi v92 (gi q85 v94)) (g93.s ((gi q85 v94)).toNat 0), eI (tI .i64) q85 g88] _ := hS.join [3, 0] [1, 2] rfl rfl hq
    clear hq
    refine wl_batch 7 8 [] [3, 69, 70, 71] (fS [3, 69, 70, 71] [vL g112 q109, vL g88 q85, vI (ln q85), vI v94]) [] H111 (by decide) (by kernel_rfl) trivial fun _ _ H114 hb => ?_
    replace hS := hS.below hb
    clear H111 hb
    apply wl_end rfl
    replace hS : SH M X w [eO 22 (Ty.sl tyValue) q109 g112, eI (tI .i64) q85 g88] _ := hS.sel [0, 3] rfl
    refine w_reg [] [3, 69, 70, 71] (fS [3, 69, 70, 71] [vL g112 q109, vL g88 q85, vI (ln q85), vI (w64 (v94 + 1))]) [] H114 (by kernel_rfl) trivial fun _ _ H116 hb => ?_
    replace hS := hS.below hb
    clear H114 hb
    replace hS : SH M X w [eI (tI .i64) q85 g88, eO 22 (Ty.sl tyValue) q109 g112] _ := hS.sel [1, 0] rfl
    exact ⟨_, Nat.lt_succ_self _, q109, w64 (v94 + 1), g112, hm, FrG.keep (ks := [69, 70, 3, 71]) H116 (by kernel_rfl), hS⟩
  ·rintro _ _ ⟨g119, H, hS⟩
   refine s_reg [] [2] [(2, [], vL g119 z77)] [] H (by kernel_rfl) trivial fun _ _ H121 hb => ?_
   replace hS := hS.below hb
   clear H hb
   apply w_ret
   obtain rfl := someE hm
   exact retR1 H121 rfl rfl ⟨_, rfl, g119, rfl, (hS.sel [0] rfl)⟩
theorem short_sides_ok {g_l_ : Gh} (m : Nat) (l_ : List TValue) (r : List (List TValue)) (hm : short_sides m l_ = some r) (M : Av) (w : World) (hS : S0 M [eI tyValue l_ g_l_] w) : DoesX Tryz.prog 61 ⟨[vL g_l_ l_]⟩ w (fun v w' => ∃ (g901 : Gh), v = vL g901 r ∧ SH M (fpl [eI tyValue l_ g_l_]) w [eO 22 (Ty.sl tyValue) r g901] w') := ⟨Tryz.call61 _, short_sides_w M m   l_ r hm w hS⟩

theorem parseval_opaque_w  (M : Av) (r_ : Int) (g_ : Int) (b_ : Int) (r : TColor) (hm : parseval_opaque r_ g_ b_ = r) (w : World) (hS : S0 M [] w) : Calls Tryz.prog 97 ⟨[vU r_, vU g_, vU b_]⟩ w (fun e w' => ∃ v, e = .returned v ∧ v = vG (cC r) ∧ SH M (fpl []) w [] w') := by
 rw [parseval_opaque] at hm
 have hS0 : SH M (fpl []) w [] w := hS
 generalize hX : fpl [] = X at hS0 ⊢
 clear hS hX
 have hS := hS0
 clear hS0
 refine calls_entryP Tryz.func97 rfl Tryz.ntmps97 rfl fun _ H => ?_
 apply w_seq
 apply wl_start
 have hd := hS.hand [] [] rfl rfl
 refine m_stp [6, 0, 1, 2] (fS [0, 1, 2] [vU r_, vU g_, vU b_]) H rfl rfl rfl rfl (o_alloc [vU 0, vU 0, vU 0, vU 0] (z := vG [vU 0, vU 0, vU 0, vU 0]) hd (by kernel_rfl) rfl) (fun _ => rfl) fun _ _ v H3 hq => ?_
 clear H hd
 obtain ⟨b1, rfl, hq⟩ := hq
 replace hS : SH M X w [eB b1 [vU 0, vU 0, vU 0, vU 0]] _ := hS.join [] [] rfl rfl hq
 clear hq
 apply wl_end rfl
 apply w_seq
 apply wl_start
 refine wl_batch 0 4 [] [6, 10] (fS [6, 10] [vP b1, vG [vU r_, vU g_, vU b_, vU 255]]) [] H3 (by decide) (by kernel_rfl) trivial fun _ _ H5 hb => ?_
 replace hS := hS.below hb
 clear H3 hb
 have hd := hS.hand [0] [] rfl rfl
 refine m_stp0 [6] [(6, [], vP b1)] H5 rfl rfl rfl (o_store [vU r_, vU g_, vU b_, vU 255] H5 hd rfl rfl (by kernel_rfl) rfl rfl rfl) rfl fun _ _ H7 hq => ?_
 clear H5 hd
 obtain ⟨_, hq⟩ := hq
 replace hS : SH M X w [eB b1 [vU r_, vU g_, vU b_, vU 255]] _ := hS.join [0] [] rfl rfl hq
 clear hq
 apply wl_end rfl
 apply w_ret
 subst hm
 exact retR1 H7 rfl (oneRes_agg rfl (hS.bk 0 rfl) Tryz.underlying55 rfl (by kernel_rfl)) ⟨_, rfl, rfl, (hS.sel [] rfl)⟩
theorem parseval_opaque_ok  (r_ : Int) (g_ : Int) (b_ : Int) : Ret Tryz.prog 97 ⟨[vU r_, vU g_, vU b_]⟩ (vG (cC (parseval_opaque r_ g_ b_))) := retP_of (Tryz.call97 _) (fun w h => parseval_opaque_w F0   r_ g_ b_ _ rfl w h)

theorem parseval_small_w  (M : Av) (m : Nat) (s : Str) (r : Str) (hm : parseval_small m s = some r) (w : World) (hS : S0 M [] w) : Calls Tryz.prog 69 ⟨[vS s]⟩ w (fun e w' => ∃ v, e = .returned v ∧ v = vS r ∧ SH M (fpl []) w [] w') := by
 rw [parseval_small] at hm
 have hS0 : SH M (fpl []) w [] w := hS
 generalize hX : fpl [] = X at hS0 ⊢
 clear hS hX
 have hS := hS0
 clear hS0
 refine calls_entryP Tryz.func69 rfl Tryz.ntmps69 rfl fun _ H => ?_
 refine s_reg [] [0] [(0, [], vS s)] [] H (by kernel_rfl) trivial fun _ _ H2 hb => ?_
 replace hS := hS.below hb
 clear H hb
 apply w_seq
 apply wl_start
 refine wl_batch 0 1 [] [6] [(6, [], vS s)] [] H2 (by decide) (by kernel_rfl) trivial fun _ _ H4 hb => ?_
 replace hS := hS.below hb
 clear H2 hb
 have hd := hS.hand [] [] rfl rfl
 refine m_stp [7] [] H4 rfl rfl rfl rfl (o_bytes (E := 5) H4 hd rfl (by kernel_rfl) (by kernel_rfl) (by kernel_rfl)) (fun _ => rfl) fun _ _ v H8 hq => ?_
 clear H4 hd
 obtain ⟨b5, c6, rfl, hc_b5, hq⟩ := hq
 replace hS : SH M X w [Ent.row .u8 b5 (ofB s) (ln (ofB s))] _ := hS.join [] [] rfl rfl hq
 clear hq
 refine wl_batch 2 3 [] [3] [(3, [], .slice (some ⟨b5, 0, none⟩) ((ofB s).length) c6)] [] H8 (by decide) (by kernel_rfl) trivial fun _ _ H10 hb => ?_
 replace hS := hS.below hb
 clear H8 hb
 apply wl_end rfl
 obtain ⟨z11, hz, hm⟩ := bindE hm
 refine w_cut (fun a' w' => Fr 30 [(3, [], .slice (some ⟨b5, 0, none⟩) ((ofB s).length) c6)] a' ∧ SH M X w [Ent.row .u8 b5 z11 (ln (ofB s))] w') ?_ ?_
 ·replace hm := hz
  refine s_reg [] [3, 8, 9, 10] (fS [3, 8, 9, 10] [.slice (some ⟨b5, 0, none⟩) ((ofB s).length) c6, .slice (some ⟨b5, 0, none⟩) ((ofB s).length) c6, vI (ln (ofB s)), vI 0]) [] H10 (by kernel_rfl) trivial fun _ _ H13 hb => ?_
  replace hS := hS.below hb
  clear H10 hb
  apply w_block
  refine w_loop (fun kk a' w' => ∃ (v14 : Int) (v15 : List Int), parseval_small_L1 m s kk v14 v15 = some _ ∧ Fr 30 (fS [3, 8, 9, 10] [.slice (some ⟨b5, 0, none⟩) ((ofB s).length) c6, .slice (some ⟨b5, 0, none⟩) ((ofB s).length) c6, vI (ln (ofB s)), vI v14]) a' ∧ SH M X w [Ent.row .u8 b5 v15 (ln (ofB s))] w') ⟨_, 0, ofB s, hm, FrG.keep (ks := [3, 8, 9, 10]) H13 (by kernel_rfl), hS⟩ ?_
  clear hm H13 hS
  rintro kk _ _ ⟨v14, v15, hm, H, hS⟩
  cases kk with
  | zero => exact noneE hm
  | succ kk =>
   rw [parseval_small_L1] at hm
   refine s_reg [] [3, 8, 9, 10, 11] (fS [3, 8, 9, 10, 11] [.slice (some ⟨b5, 0, none⟩) ((ofB s).length) c6, .slice (some ⟨b5, 0, none⟩) ((ofB s).length) c6, vI (ln (ofB s)), vI v14, vB (decide (v14 < (ln (ofB s))))]) [] H (by kernel_rfl) trivial fun _ _ H17 hb => ?_
   replace hS := hS.below hb
   clear H hb
   apply w_seq
   refine w_if H17 rfl (fun hc => ?_) (fun hc => ?c34)
   case c34 =>
    replace hm := bF hc hm
    apply w_exit rfl
    obtain rfl := someE hm
    exact ⟨FrG.keep (ks := [3]) H17 (by kernel_rfl), hS⟩
   replace hm := bT hc hm
   apply w_skip
   obtain ⟨z18, hz, hm⟩ := bindE hm
   refine w_cut (fun a' w' => Fr 30 (fS [3, 8, 9, 10] [.slice (some ⟨b5, 0, none⟩) ((ofB s).length) c6, .slice (some ⟨b5, 0, none⟩) ((ofB s).length) c6, vI (ln (ofB s)), vI v14]) a' ∧ SH M X w [Ent.row .u8 b5 z18 (ln (ofB s))] w') ?_ ?_
   ·replace hm := hz
    apply w_block
    obtain ⟨ho19, hm⟩ := chkE hm
    refine s_reg [(vU (gi v15 v14))] [3, 4, 5, 8, 9, 10] (fS [3, 4, 5, 8, 9, 10] [.slice (some ⟨b5, 0, none⟩) ((ofB s).length) c6, vI v14, vU (gi v15 v14), .slice (some ⟨b5, 0, none⟩) ((ofB s).length) c6, vI (ln (ofB s)), vI v14]) [fun _ => oka (some ⟨b5, 0, none⟩) ∧ 0 ≤ v14 ∧ v14 < ln (ofB s), fun wz => V.at1 ⟨b5, 0 + (v14).toNat * 1, none⟩ (vU (gi v15 v14)) wz] H17 (by kernel_rfl) ⟨(⟨rfl, ho19⟩), (Rw.ixn (hS.rw 0 rfl) ho19), trivial⟩ fun _ _ H21 hb => ?_
    replace hS := hS.below hb
    clear H17 hb
    obtain ⟨x22, hx22, hm⟩ := letE hm
    refine s_reg [] [3, 4, 5, 8, 9, 10, 20] (fS [3, 4, 5, 8, 9, 10, 20] [.slice (some ⟨b5, 0, none⟩) ((ofB s).length) c6, vI v14, vU (gi v15 v14), .slice (some ⟨b5, 0, none⟩) ((ofB s).length) c6, vI (ln (ofB s)), vI v14, vB x22]) [] H21 (by subst hx22; kernel_rfl) trivial fun _ _ H24 hb => ?_
    replace hS := hS.below hb
    clear H21 hb
    refine w_if H24 rfl (fun hc => ?_) (fun hc => ?c30)
    case c30 =>
     replace hm := bF hc hm
     apply w_skip
     obtain rfl := someE hm
     exact ⟨FrG.keep (ks := [3, 8, 9, 10]) H24 (by kernel_rfl), hS⟩
    replace hm := bT hc hm
    apply wl_start
    refine wl_batch 0 6 [] [3, 8, 9, 10, 25, 26] (fS [3, 8, 9, 10, 25, 26] [.slice (some ⟨b5, 0, none⟩) ((ofB s).length) c6, .slice (some ⟨b5, 0, none⟩) ((ofB s).length) c6, vI (ln (ofB s)), vI v14, vU (wu8 ((wu8 ((gi v15 v14) + 97)) - 65)), .pointer (some ⟨b5, 0 + (v14).toNat * 1, none⟩)]) [fun _ => oka (some ⟨b5, 0, none⟩) ∧ 0 ≤ v14 ∧ v14 < ln (ofB s)] H24 (by decide) (by kernel_rfl) ⟨(⟨rfl, ho19⟩), trivial⟩ fun _ _ H26 hb => ?_
    replace hS := hS.below hb
    clear H24 hb
    have hd := hS.hand [0] [] rfl rfl
    refine m_stp0 [3, 8, 9, 10] (fS [3, 8, 9, 10] [.slice (some ⟨b5, 0, none⟩) ((ofB s).length) c6, .slice (some ⟨b5, 0, none⟩) ((ofB s).length) c6, vI (ln (ofB s)), vI v14]) H26 rfl rfl rfl (o_rstore H26 hd rfl rfl (by kernel_rfl) ho19) rfl fun _ _ H28 hq => ?_
    clear H26 hd
    obtain ⟨_, hq⟩ := hq
    obtain ⟨q29, hq29, hm⟩ := letE hm
    rw [← hq29] at hq
    replace hS : SH M X w [Ent.row .u8 b5 q29 (ln (ofB s))] _ := hS.join [0] [] rfl rfl hq
    clear hq
    apply wl_end rfl
    obtain rfl := someE hm
    exact ⟨FrG.keep (ks := [3, 8, 9, 10]) H28 (by kernel_rfl), hS⟩
   ·rintro _ _ ⟨H, hS⟩
    refine w_reg [] [3, 8, 9, 10] (fS [3, 8, 9, 10] [.slice (some ⟨b5, 0, none⟩) ((ofB s).length) c6, .slice (some ⟨b5, 0, none⟩) ((ofB s).length) c6, vI (ln (ofB s)), vI (w64 (v14 + 1))]) [] H (by kernel_rfl) trivial fun _ _ H32 hb => ?_
    replace hS := hS.below hb
    clear H hb
    exact ⟨_, Nat.lt_succ_self _, w64 (v14 + 1), z18, hm, FrG.keep (ks := [3, 8, 9, 10]) H32 (by kernel_rfl), hS⟩
 ·rintro _ _ ⟨H, hS⟩
  refine s_reg [(vS (toB z11))] [2] [(2, [], vS (toB z11))] [fun wz => ∀ w', Below wz.heap.size wz w' → (convert 98 9 (.slice (some ⟨b5, 0, none⟩) ((ofB s).length) c6)).run Tryz.prog w' = .ok (vS (toB z11)) w'] H (by kernel_rfl) ⟨(conv_row (E := 5) (by kernel_rfl) (by kernel_rfl) (by kernel_rfl) (hS.rw 0 rfl).1 (hS.rw 0 rfl).2), trivial⟩ fun _ _ H37 hb => ?_
  replace hS := hS.below hb
  clear H hb
  replace hS : SH M X w [] _ := hS.sel [] rfl
  apply w_ret
  obtain rfl := someE hm
  exact retR1 H37 rfl rfl ⟨_, rfl, rfl, (hS.sel [] rfl)⟩
theorem parseval_small_ok  (m : Nat) (s : Str) (r : Str) (hm : parseval_small m s = some r) : Ret Tryz.prog 69 ⟨[vS s]⟩ (vS r) := retP_of (Tryz.call69 _) (fun w h => parseval_small_w F0 m   s r hm w h)

theorem parseval_Named_w  (M : Av) (m : Nat) (name_ : Str) (r : TColor × Int) (hm : parseval_Named m name_ = some r) (w : World) (hS : S0 M [] w) : Calls Tryz.prog 86 ⟨[vS name_]⟩ w (fun e w' => ∃ v, e = .returned v ∧ v = vW [vG (cC r.1), vI r.2] ∧ SH M (fpl []) w [] w') := by
 rw [parseval_Named] at hm
 have hS0 : SH M (fpl []) w [] w := hS
 generalize hX : fpl [] = X at hS0 ⊢
 clear hS hX
 have hS := hS0
 clear hS0
 refine calls_entryP Tryz.func86 rfl Tryz.ntmps86 rfl fun _ H => ?_
 apply w_seq
 apply wl_start
 have hd := hS.hand [] [] rfl rfl
 refine m_stp [2, 0] [(0, [], vS name_)] H rfl rfl rfl rfl (o_alloc [vU 0, vU 0, vU 0, vU 0] (z := vG [vU 0, vU 0, vU 0, vU 0]) hd (by kernel_rfl) rfl) (fun _ => rfl) fun _ _ v H3 hq => ?_
 clear H hd
 obtain ⟨b1, rfl, hq⟩ := hq
 replace hS : SH M X w [eB b1 [vU 0, vU 0, vU 0, vU 0]] _ := hS.join [] [] rfl rfl hq
 clear hq
 refine wl_batch 1 2 [] [0, 2] (fS [0, 2] [vS name_, vP b1]) [] H3 (by decide) (by kernel_rfl) trivial fun _ _ H5 hb => ?_
 replace hS := hS.below hb
 clear H3 hb
 apply wl_end rfl
 apply w_seq
 apply wl_start
 have hd := hS.hand [] [0] rfl rfl
 refine m_stp [7, 0, 2] (fS [0, 2] [vS name_, vP b1]) H5 rfl rfl rfl rfl (o_mkmap hd) (fun _ => rfl) fun _ _ v H8 hq => ?_
 clear H5 hd
 obtain ⟨b6, rfl, hq⟩ := hq
 replace hS : SH M X w [Ent.mpo b6 [], eB b1 [vU 0, vU 0, vU 0, vU 0]] _ := hS.join [] [0] rfl rfl hq
 clear hq
 obtain ⟨y9, hy9, hm⟩ := letE hm
 refine wl_batch 1 2 [(vG (cC y9))] [0, 2, 7, 8] (fS [0, 2, 7, 8] [vS name_, vP b1, .map (some b6), vG (cC y9)]) [rB 97 [vU 0, vU 0, vU 0] (vG (cC y9))] H8 (by decide) (by subst hy9; kernel_rfl) ⟨((by rw [hy9]; exact (parseval_opaque_ok _ _ _).b)), trivial⟩ fun _ _ H11 hb => ?_
 replace hS := hS.below hb
 clear H8 hb
 have hd := hS.hand [0] [1] rfl rfl
 refine m_stp0 [0, 2, 7] (fS [0, 2, 7] [vS name_, vP b1, .map (some b6)]) H11 rfl rfl rfl (o_ins (kt := 9) (et := 55) H11 hd rfl rfl rfl (by kernel_rfl) (by kernel_rfl) rfl) rfl fun _ _ H13 hq => ?_
 clear H11 hd
 obtain ⟨_, hq⟩ := hq
 replace hS : SH M X w [Ent.mpo b6 [([98, 108, 97, 99, 107], vG (cC y9))], eB b1 [vU 0, vU 0, vU 0, vU 0]] _ := hS.join [0] [1] rfl rfl hq
 clear hq
 obtain ⟨y14, hy14, hm⟩ := letE hm
 refine wl_batch 3 4 [(vG (cC y14))] [0, 2, 7, 9] (fS [0, 2, 7, 9] [vS name_, vP b1, .map (some b6), vG (cC y14)]) [rB 97 [vU 255, vU 255, vU 255] (vG (cC y14))] H13 (by decide) (by subst hy14; kernel_rfl) ⟨((by rw [hy14]; exact (parseval_opaque_ok _ _ _).b)), trivial⟩ fun _ _ H16 hb => ?_
 replace hS := hS.below hb
 clear H13 hb
 have hd := hS.hand [0] [1] rfl rfl
 refine m_stp0 [0, 2, 7] (fS [0, 2, 7] [vS name_, vP b1, .map (some b6)]) H16 rfl rfl rfl (o_ins (kt := 9) (et := 55) H16 hd rfl rfl rfl (by kernel_rfl) (by kernel_rfl) rfl) rfl fun _ _ H18 hq => ?_
 clear H16 hd
 obtain ⟨_, hq⟩ := hq
 replace hS : SH M X w [Ent.mpo b6 [([98, 108, 97, 99, 107], vG (cC y9)), ([119, 104, 105, 116, 101], vG (cC y14))], eB b1 [vU 0, vU 0, vU 0, vU 0]] _ := hS.join [0] [1] rfl rfl hq
 clear hq
 obtain ⟨y19, hy19, hm⟩ := letE hm
 refine wl_batch 5 6 [(vG (cC y19))] [0, 2, 7, 10] (fS [0, 2, 7, 10] [vS name_, vP b1, .map (some b6), vG (cC y19)]) [rB 97 [vU 255, vU 0, vU 0] (vG (cC y19))] H18 (by decide) (by subst hy19; kernel_rfl) ⟨((by rw [hy19]; exact (parseval_opaque_ok _ _ _).b)), trivial⟩ fun _ _ H21 hb => ?_
 replace hS := hS.below hb
 clear H18 hb
 have hd := hS.hand [0] [1] rfl rfl
 refine m_stp0 [0, 2, 7] (fS [0, 2, 7] [vS name_, vP b1, .map (some b6)]) H21 rfl rfl rfl (o_ins (kt := 9) (et := 55) H21 hd rfl rfl rfl (by kernel_rfl) (by kernel_rfl) rfl) rfl fun _ _ H23 hq => ?_
 clear H21 hd
 obtain ⟨_, hq⟩ := hq
 replace hS : SH M X w [Ent.mpo b6 [([98, 108, 97, 99, 107], vG (cC y9)), ([119, 104, 105, 116, 101], vG (cC y14)), ([114, 101, 100], vG (cC y19))], eB b1 [vU 0, vU 0, vU 0, vU 0]] _ := hS.join [0] [1] rfl rfl hq
 clear hq
 obtain ⟨y24, hy24, hm⟩ := letE hm
 refine wl_batch 7 8 [(vG (cC y24))] [0, 2, 7, 11] (fS [0, 2, 7, 11] [vS name_, vP b1, .map (some b6), vG (cC y24)]) [rB 97 [vU 0, vU 255, vU 0] (vG (cC y24))] H23 (by decide) (by subst hy24; kernel_rfl) ⟨((by rw [hy24]; exact (parseval_opaque_ok _ _ _).b)), trivial⟩ fun _ _ H26 hb => ?_
 replace hS := hS.below hb
 clear H23 hb
 have hd := hS.hand [0] [1] rfl rfl
 refine m_stp0 [0, 2, 7] (fS [0, 2, 7] [vS name_, vP b1, .map (some b6)]) H26 rfl rfl rfl (o_ins (kt := 9) (et := 55) H26 hd rfl rfl rfl (by kernel_rfl) (by kernel_rfl) rfl) rfl fun _ _ H28 hq => ?_
 clear H26 hd
 obtain ⟨_, hq⟩ := hq
 replace hS : SH M X w [Ent.mpo b6 [([98, 108, 97, 99, 107], vG (cC y9)), ([119, 104, 105, 116, 101], vG (cC y14)), ([114, 101, 100], vG (cC y19)), ([108, 105, 109, 101], vG (cC y24))], eB b1 [vU 0, vU 0, vU 0, vU 0]] _ := hS.join [0] [1] rfl rfl hq
 clear hq
 obtain ⟨y29, hy29, hm⟩ := letE hm
 refine wl_batch 9 10 [(vG (cC y29))] [0, 2, 7, 12] (fS [0, 2, 7, 12] [vS name_, vP b1, .map (some b6), vG (cC y29)]) [rB 97 [vU 0, vU 0, vU 255] (vG (cC y29))] H28 (by decide) (by subst hy29; kernel_rfl) ⟨((by rw [hy29]; exact (parseval_opaque_ok _ _ _).b)), trivial⟩ fun _ _ H31 hb => ?_
 replace hS := hS.below hb
 clear H28 hb
 have hd := hS.hand [0] [1] rfl rfl
 refine m_stp0 [0, 2, 7] (fS [0, 2, 7] [vS name_, vP b1, .map (some b6)]) H31 rfl rfl rfl (o_ins (kt := 9) (et := 55) H31 hd rfl rfl rfl (by kernel_rfl) (by kernel_rfl) rfl) rfl fun _ _ H33 hq => ?_
 clear H31 hd
 obtain ⟨_, hq⟩ := hq
 replace hS : SH M X w [Ent.mpo b6 [([98, 108, 97, 99, 107], vG (cC y9)), ([119, 104, 105, 116, 101], vG (cC y14)), ([114, 101, 100], vG (cC y19)), ([108, 105, 109, 101], vG (cC y24)), ([98, 108, 117, 101], vG (cC y29))], eB b1 [vU 0, vU 0, vU 0, vU 0]] _ := hS.join [0] [1] rfl rfl hq
 clear hq
 obtain ⟨y34, hy34, hm⟩ := letE hm
 refine wl_batch 11 12 [(vG (cC y34))] [0, 2, 7, 13] (fS [0, 2, 7, 13] [vS name_, vP b1, .map (some b6), vG (cC y34)]) [rB 97 [vU 255, vU 255, vU 0] (vG (cC y34))] H33 (by decide) (by subst hy34; kernel_rfl) ⟨((by rw [hy34]; exact (parseval_opaque_ok _ _ _).b)), trivial⟩ fun _ _ H36 hb => ?_
 replace hS := hS.below hb
 clear H33 hb
 have hd := hS.hand [0] [1] rfl rfl
 refine m_stp0 [0, 2, 7] (fS [0, 2, 7] [vS name_, vP b1, .map (some b6)]) H36 rfl rfl rfl (o_ins (kt := 9) (et := 55) H36 hd rfl rfl rfl (by kernel_rfl) (by kernel_rfl) rfl) rfl fun _ _ H38 hq => ?_
 clear H36 hd
 obtain ⟨_, hq⟩ := hq
 replace hS : SH M X w [Ent.mpo b6 [([98, 108, 97, 99, 107], vG (cC y9)), ([119, 104, 105, 116, 101], vG (cC y14)), ([114, 101, 100], vG (cC y19)), ([108, 105, 109, 101], vG (cC y24)), ([98, 108, 117, 101], vG (cC y29)), ([121, 101, 108, 108, 111, 119], vG (cC y34))], eB b1 [vU 0, vU 0, vU 0, vU 0]] _ := hS.join [0] [1] rfl rfl hq
 clear hq
 obtain ⟨y39, hy39, hm⟩ := letE hm
 refine wl_batch 13 14 [(vG (cC y39))] [0, 2, 7, 14] (fS [0, 2, 7, 14] [vS name_, vP b1, .map (some b6), vG (cC y39)]) [rB 97 [vU 128, vU 128, vU 128] (vG (cC y39))] H38 (by decide) (by subst hy39; kernel_rfl) ⟨((by rw [hy39]; exact (parseval_opaque_ok _ _ _).b)), trivial⟩ fun _ _ H41 hb => ?_
 replace hS := hS.below hb
 clear H38 hb
 have hd := hS.hand [0] [1] rfl rfl
 refine m_stp0 [0, 2, 7] (fS [0, 2, 7] [vS name_, vP b1, .map (some b6)]) H41 rfl rfl rfl (o_ins (kt := 9) (et := 55) H41 hd rfl rfl rfl (by kernel_rfl) (by kernel_rfl) rfl) rfl fun _ _ H43 hq => ?_
 clear H41 hd
 obtain ⟨_, hq⟩ := hq
 replace hS : SH M X w [Ent.mpo b6 [([98, 108, 97, 99, 107], vG (cC y9)), ([119, 104, 105, 116, 101], vG (cC y14)), ([114, 101, 100], vG (cC y19)), ([108, 105, 109, 101], vG (cC y24)), ([98, 108, 117, 101], vG (cC y29)), ([121, 101, 108, 108, 111, 119], vG (cC y34)), ([103, 114, 97, 121], vG (cC y39))], eB b1 [vU 0, vU 0, vU 0, vU 0]] _ := hS.join [0] [1] rfl rfl hq
 clear hq
 refine wl_batch 15 16 [] [0, 2, 7, 15] (fS [0, 2, 7, 15] [vS name_, vP b1, .map (some b6), vG [vU 0, vU 0, vU 0, vU 0]]) [] H43 (by decide) (by kernel_rfl) trivial fun _ _ H45 hb => ?_
 replace hS := hS.below hb
 clear H43 hb
 have hd := hS.hand [0] [1] rfl rfl
 refine m_stp0 [0, 2, 7] (fS [0, 2, 7] [vS name_, vP b1, .map (some b6)]) H45 rfl rfl rfl (o_ins (kt := 9) (et := 55) H45 hd rfl rfl rfl (by kernel_rfl) (by kernel_rfl) rfl) rfl fun _ _ H47 hq => ?_
 clear H45 hd
 obtain ⟨_, hq⟩ := hq
 replace hS : SH M X w [Ent.mpo b6 [([98, 108, 97, 99, 107], vG (cC y9)), ([119, 104, 105, 116, 101], vG (cC y14)), ([114, 101, 100], vG (cC y19)), ([108, 105, 109, 101], vG (cC y24)), ([98, 108, 117, 101], vG (cC y29)), ([121, 101, 108, 108, 111, 119], vG (cC y34)), ([103, 114, 97, 121], vG (cC y39)), ([116, 114, 97, 110, 115, 112, 97, 114, 101, 110, 116], vG [vU 0, vU 0, vU 0, vU 0])], eB b1 [vU 0, vU 0, vU 0, vU 0]] _ := hS.join [0] [1] rfl rfl hq
 clear hq
 obtain ⟨y48, hy48, hm⟩ := bindE hm
 refine wl_batch 17 20 [(vS y48)] [2, 16, 18] (fS [2, 16, 18] [vP b1, .map (some b6), vS y48]) [rB 69 [vS name_] (vS y48)] H47 (by decide) (by kernel_rfl) ⟨((parseval_small_ok m _ _ hy48).b), trivial⟩ fun _ _ H50 hb => ?_
 replace hS := hS.below hb
 clear H47 hb
 obtain ⟨x51, hx51, hm⟩ := letE hm
 have hd := hS.hand [0] [1] rfl rfl
 refine m_stp [19, 2] [(2, [], vP b1)] H50 rfl rfl rfl rfl (o_look (kt := 9) (et := 55) (z := vG [vU 0, vU 0, vU 0, vU 0]) (ix := x51) (fun q => vG [vU (gi ([y9.Red, y14.Red, y19.Red, y24.Red, y29.Red, y34.Red, y39.Red, 0, 0] : List Int) q), vU (gi ([y9.Green, y14.Green, y19.Green, y24.Green, y29.Green, y34.Green, y39.Green, 0, 0] : List Int) q), vU (gi ([y9.Blue, y14.Blue, y19.Blue, y24.Blue, y29.Blue, y34.Blue, y39.Blue, 0, 0] : List Int) q), vU (gi ([y9.Alpha, y14.Alpha, y19.Alpha, y24.Alpha, y29.Alpha, y34.Alpha, y39.Alpha, 0, 0] : List Int) q)]) (vW [vG [vU (gi ([y9.Red, y14.Red, y19.Red, y24.Red, y29.Red, y34.Red, y39.Red, 0, 0] : List Int) x51), vU (gi ([y9.Green, y14.Green, y19.Green, y24.Green, y29.Green, y34.Green, y39.Green, 0, 0] : List Int) x51), vU (gi ([y9.Blue, y14.Blue, y19.Blue, y24.Blue, y29.Blue, y34.Blue, y39.Blue, 0, 0] : List Int) x51), vU (gi ([y9.Alpha, y14.Alpha, y19.Alpha, y24.Alpha, y29.Alpha, y34.Alpha, y39.Alpha, 0, 0] : List Int) x51)], vB (decide (x51 < 8))]) H50 hd hx51 rfl rfl rfl (by kernel_rfl) (by kernel_rfl) (by kernel_rfl) rfl) (fun _ => rfl) fun _ _ v H53 hq => ?_
 clear H50 hd
 obtain ⟨rfl, hq⟩ := hq
 replace hS : SH M X w [Ent.mpo b6 [([98, 108, 97, 99, 107], vG (cC y9)), ([119, 104, 105, 116, 101], vG (cC y14)), ([114, 101, 100], vG (cC y19)), ([108, 105, 109, 101], vG (cC y24)), ([98, 108, 117, 101], vG (cC y29)), ([121, 101, 108, 108, 111, 119], vG (cC y34)), ([103, 114, 97, 121], vG (cC y39)), ([116, 114, 97, 110, 115, 112, 97, 114, 101, 110, 116], vG [vU 0, vU 0, vU 0, vU 0])], eB b1 [vU 0, vU 0, vU 0, vU 0]] _ := hS.join [0] [1] rfl rfl hq
 clear hq
 obtain ⟨x54, hx54, hm⟩ := letE hm
 obtain ⟨x55, hx55, hm⟩ := letE hm
 obtain ⟨x56, hx56, hm⟩ := letE hm
 obtain ⟨x57, hx57, hm⟩ := letE hm
 refine wl_batch 21 24 [] [2, 20, 21] (fS [2, 20, 21] [vP b1, vG [vU x54, vU x55, vU x56, vU x57], vB (decide (x51 < 8))]) [] H53 (by decide) (by subst hx54 hx55 hx56 hx57; kernel_rfl) trivial fun _ _ H59 hb => ?_
 replace hS := hS.below hb
 clear H53 hb
 have hd := hS.hand [] [0, 1] rfl rfl
 refine m_stp [4, 2, 20, 21] (fS [2, 20, 21] [vP b1, vG [vU x54, vU x55, vU x56, vU x57], vB (decide (x51 < 8))]) H59 rfl rfl rfl rfl (o_alloc [vU 0, vU 0, vU 0, vU 0] (z := vG [vU 0, vU 0, vU 0, vU 0]) hd (by kernel_rfl) rfl) (fun _ => rfl) fun _ _ v H62 hq => ?_
 clear H59 hd
 obtain ⟨b60, rfl, hq⟩ := hq
 replace hS : SH M X w [eB b60 [vU 0, vU 0, vU 0, vU 0], Ent.mpo b6 [([98, 108, 97, 99, 107], vG (cC y9)), ([119, 104, 105, 116, 101], vG (cC y14)), ([114, 101, 100], vG (cC y19)), ([108, 105, 109, 101], vG (cC y24)), ([98, 108, 117, 101], vG (cC y29)), ([121, 101, 108, 108, 111, 119], vG (cC y34)), ([103, 114, 97, 121], vG (cC y39)), ([116, 114, 97, 110, 115, 112, 97, 114, 101, 110, 116], vG [vU 0, vU 0, vU 0, vU 0])], eB b1 [vU 0, vU 0, vU 0, vU 0]] _ := hS.join [] [0, 1] rfl rfl hq
 clear hq
 have hd := hS.hand [0] [1, 2] rfl rfl
 refine m_stp0 [2, 4, 21] (fS [2, 4, 21] [vP b1, vP b60, vB (decide (x51 < 8))]) H62 rfl rfl rfl (o_store [vU x54, vU x55, vU x56, vU x57] H62 hd rfl rfl (by kernel_rfl) rfl rfl rfl) rfl fun _ _ H64 hq => ?_
 clear H62 hd
 obtain ⟨_, hq⟩ := hq
 replace hS : SH M X w [eB b60 [vU x54, vU x55, vU x56, vU x57], Ent.mpo b6 [([98, 108, 97, 99, 107], vG (cC y9)), ([119, 104, 105, 116, 101], vG (cC y14)), ([114, 101, 100], vG (cC y19)), ([108, 105, 109, 101], vG (cC y24)), ([98, 108, 117, 101], vG (cC y29)), ([121, 101, 108, 108, 111, 119], vG (cC y34)), ([103, 114, 97, 121], vG (cC y39)), ([116, 114, 97, 110, 115, 112, 97, 114, 101, 110, 116], vG [vU 0, vU 0, vU 0, vU 0])], eB b1 [vU 0, vU 0, vU 0, vU 0]] _ := hS.join [0] [1, 2] rfl rfl hq
 clear hq
 refine wl_batch 26 27 [] [2, 4, 5] (fS [2, 4, 5] [vP b1, vP b60, vB (decide (x51 < 8))]) [] H64 (by decide) (by kernel_rfl) trivial fun _ _ H66 hb => ?_
 replace hS := hS.below hb
 clear H64 hb
 apply wl_end rfl
 replace hS : SH M X w [eB b60 [vU x54, vU x55, vU x56, vU x57], eB b1 [vU 0, vU 0, vU 0, vU 0]] _ := hS.sel [0, 2] rfl
 apply w_seq
 refine s_reg [] [2, 4, 23] (fS [2, 4, 23] [vP b1, vP b60, vB (!(decide (x51 < 8)))]) [] H66 (by kernel_rfl) trivial fun _ _ H68 hb => ?_
 replace hS := hS.below hb
 clear H66 hb
 refine w_if H68 rfl (fun hc => ?c81) (fun hc => ?_)
 case c81 =>
  replace hm := bT hc hm
  apply w_seq
  apply wl_start
  refine wl_batch 0 1 [] [2, 24] (fS [2, 24] [vP b1, vG [vU 0, vU 0, vU 0, vU 0]]) [] H68 (by decide) (by kernel_rfl) trivial fun _ _ H70 hb => ?_
  replace hS := hS.below hb
  clear H68 hb
  have hd := hS.hand [1] [0] rfl rfl
  refine m_stp0 [2] [(2, [], vP b1)] H70 rfl rfl rfl (o_store [vU 0, vU 0, vU 0, vU 0] H70 hd rfl rfl (by kernel_rfl) rfl rfl rfl) rfl fun _ _ H72 hq => ?_
  clear H70 hd
  obtain ⟨_, hq⟩ := hq
  replace hS : SH M X w [eB b1 [vU 0, vU 0, vU 0, vU 0], eB b60 [vU x54, vU x55, vU x56, vU x57]] _ := hS.join [1] [0] rfl rfl hq
  clear hq
  refine wl_batch 2 3 [] [2, 3] (fS [2, 3] [vP b1, vI 6]) [] H72 (by decide) (by kernel_rfl) trivial fun _ _ H74 hb => ?_
  replace hS := hS.below hb
  clear H72 hb
  apply wl_end rfl
  replace hS : SH M X w [eB b1 [vU 0, vU 0, vU 0, vU 0]] _ := hS.sel [0] rfl
  apply w_ret
  obtain rfl := someE hm
  exact retR2 H74 rfl (oneRes_agg rfl (hS.bk 0 rfl) Tryz.underlying55 rfl (by kernel_rfl)) rfl ⟨_, rfl, rfl, (hS.sel [] rfl)⟩
 replace hm := bF hc hm
 apply w_skip
 apply w_seq
 apply wl_start
 refine wl_batch 0 1 [(vG [vU x54, vU x55, vU x56, vU x57])] [2, 25] (fS [2, 25] [vP b1, vG [vU x54, vU x55, vU x56, vU x57]]) [rN b60 0 [vU x54, vU x55, vU x56, vU x57]] H68 (by decide) (by kernel_rfl) ⟨((hS.bk 0 rfl).atD rfl), trivial⟩ fun _ _ H76 hb => ?_
 replace hS := hS.below hb
 clear H68 hb
 have hd := hS.hand [1] [0] rfl rfl
 refine m_stp0 [2] [(2, [], vP b1)] H76 rfl rfl rfl (o_store [vU x54, vU x55, vU x56, vU x57] H76 hd rfl rfl (by kernel_rfl) rfl rfl rfl) rfl fun _ _ H78 hq => ?_
 clear H76 hd
 obtain ⟨_, hq⟩ := hq
 replace hS : SH M X w [eB b1 [vU x54, vU x55, vU x56, vU x57], eB b60 [vU x54, vU x55, vU x56, vU x57]] _ := hS.join [1] [0] rfl rfl hq
 clear hq
 refine wl_batch 2 3 [] [2, 3] (fS [2, 3] [vP b1, vI 0]) [] H78 (by decide) (by kernel_rfl) trivial fun _ _ H80 hb => ?_
 replace hS := hS.below hb
 clear H78 hb
 apply wl_end rfl
 replace hS : SH M X w [eB b1 [vU x54, vU x55, vU x56, vU x57]] _ := hS.sel [0] rfl
 apply w_ret
 obtain rfl := someE hm
 exact retR2 H80 rfl (oneRes_agg rfl (hS.bk 0 rfl) Tryz.underlying55 rfl (by kernel_rfl)) rfl ⟨_, rfl, rfl, (hS.sel [] rfl)⟩
theorem parseval_Named_ok  (m : Nat) (name_ : Str) (r : TColor × Int) (hm : parseval_Named m name_ = some r) : Ret Tryz.prog 86 ⟨[vS name_]⟩ (vW [vG (cC r.1), vI r.2]) := retP_of (Tryz.call86 _) (fun w h => parseval_Named_w F0 m   name_ r hm w h)

theorem strconv_lower_w  (M : Av) (c_ : Int) (r : Int) (hm : strconv_lower c_ = r) (w : World) (hS : S0 M [] w) : Calls Tryz.prog 132 ⟨[vU c_]⟩ w (fun e w' => ∃ v, e = .returned v ∧ v = vU r ∧ SH M (fpl []) w [] w') := by
 rw [strconv_lower] at hm
 have hS0 : SH M (fpl []) w [] w := hS
 generalize hX : fpl [] = X at hS0 ⊢
 clear hS hX
 have hS := hS0
 clear hS0
 refine calls_entryP Tryz.func132 rfl Tryz.ntmps132 rfl fun _ H => ?_
 refine s_reg [] [0] [(0, [], vU c_)] [] H (by kernel_rfl) trivial fun _ _ H2 hb => ?_
 replace hS := hS.below hb
 clear H hb
 refine s_reg [] [2] [(2, [], vU (ibit .or .u8 c_ 32))] [] H2 (by kernel_rfl) trivial fun _ _ H4 hb => ?_
 replace hS := hS.below hb
 clear H2 hb
 apply w_ret
 subst hm
 exact retR1 H4 rfl rfl ⟨_, rfl, rfl, (hS.sel [] rfl)⟩
theorem strconv_lower_ok  (c_ : Int) : Ret Tryz.prog 132 ⟨[vU c_]⟩ (vU (strconv_lower c_)) := retP_of (Tryz.call132 _) (fun w h => strconv_lower_w F0   c_ _ rfl w h)

theorem strconv_underscoreOK_w  (M : Av) (m : Nat) (s : Str) (r : Bool) (hm : strconv_underscoreOK m s = some r) (w : World) (hS : S0 M [] w) : Calls Tryz.prog 133 ⟨[vS s]⟩ w (fun e w' => ∃ v, e = .returned v ∧ v = vB r ∧ SH M (fpl []) w [] w') := by
 rw [strconv_underscoreOK] at hm
 have hS0 : SH M (fpl []) w [] w := hS
 generalize hX : fpl [] = X at hS0 ⊢
 clear hS hX
 have hS := hS0
 clear hS0
 refine calls_entryP Tryz.func133 rfl Tryz.ntmps133 rfl fun _ H => ?_
 refine s_reg [] [0] [(0, [], vS s)] [] H (by kernel_rfl) trivial fun _ _ H2 hb => ?_
 replace hS := hS.below hb
 clear H hb
 refine s_reg [] [0, 3] (fS [0, 3] [vS s, vJ 94]) [] H2 (by kernel_rfl) trivial fun _ _ H4 hb => ?_
 replace hS := hS.below hb
 clear H2 hb
 refine s_reg [] [0, 3, 4] (fS [0, 3, 4] [vS s, vJ 94, vI 0]) [] H4 (by kernel_rfl) trivial fun _ _ H6 hb => ?_
 replace hS := hS.below hb
 clear H4 hb
 obtain ⟨z7, hz, hm⟩ := bindE hm
 refine w_cut (fun a' w' => Fr 94 (fS [3, 4, 0] [vJ 94, vI 0, vS z7]) a' ∧ SH M X w [] w') ?_ ?_
 ·replace hm := hz
  obtain ⟨ho8, hm⟩ := chkE hm
  obtain ⟨ho9, hm⟩ := chkE hm
  obtain ⟨x10, hx10, hm⟩ := letE hm
  refine s_reg [] [0, 3, 4, 18] (fS [0, 3, 4, 18] [vS s, vJ 94, vI 0, vB x10]) [fun _ => ((decide (1 ≤ (ln s))) = true ∧ True → 0 ≤ (0 : Int) ∧ (0 : Int) < ln s), fun _ => (((bat s 0) == 45) = false ∧ (decide (1 ≤ (ln s))) = true ∧ True → 0 ≤ (0 : Int) ∧ (0 : Int) < ln s)] H6 (by subst hx10; kernel_rfl) ⟨fun hg => (ho8 hg.1), fun hg => (ho9 hg.1 hg.2.1), trivial⟩ fun _ _ H12 hb => ?_
  replace hS := hS.below hb
  clear H6 hb
  refine w_if H12 rfl (fun hc => ?_) (fun hc => ?c16)
  case c16 =>
   replace hm := bF hc hm
   apply w_skip
   obtain rfl := someE hm
   exact ⟨FrG.keep (ks := [3, 4, 0]) H12 (by kernel_rfl), hS⟩
  replace hm := bT hc hm
  obtain ⟨ho13, hm⟩ := chkE hm
  refine w_reg [] [0, 3, 4] (fS [0, 3, 4] [vS (sub s 1 (ln s)), vJ 94, vI 0]) [fun _ => 0 ≤ (1 : Int) ∧ (1 : Int) ≤ ln s] H12 (by kernel_rfl) ⟨ho13, trivial⟩ fun _ _ H15 hb => ?_
  replace hS := hS.below hb
  clear H12 hb
  obtain rfl := someE hm
  exact ⟨FrG.keep (ks := [3, 4, 0]) H15 (by kernel_rfl), hS⟩
 ·rintro _ _ ⟨H, hS⟩
  refine s_reg [] [0, 3, 4, 5] (fS [0, 3, 4, 5] [vS z7, vJ 94, vI 0, vF]) [] H (by kernel_rfl) trivial fun _ _ H18 hb => ?_
  replace hS := hS.below hb
  clear H hb
  obtain ⟨z19, hz, hm⟩ := bindE hm
  refine w_cut (fun a' w' => Fr 94 (fS [0, 3, 4, 5] [vS z7, vJ z19.1, vI z19.2.1, vB z19.2.2]) a' ∧ SH M X w [] w') ?_ ?_
  ·replace hm := hz
   obtain ⟨ho20, hm⟩ := chkE hm
   obtain ⟨x21, hx21, hm⟩ := letE hm
   obtain ⟨ho22, hm⟩ := chkE hm
   obtain ⟨ho23, hm⟩ := chkE hm
   obtain ⟨ho24, hm⟩ := chkE hm
   obtain ⟨x25, hx25, hm⟩ := letE hm
   refine s_reg [(vU (strconv_lower (bat z7 1))), (vU (strconv_lower (bat z7 1))), (vU (strconv_lower (bat z7 1)))] [0, 3, 4, 5, 46] (fS [0, 3, 4, 5, 46] [vS z7, vJ 94, vI 0, vF, vB x25]) [fun _ => ((decide (2 ≤ (ln z7))) = true ∧ True → 0 ≤ (0 : Int) ∧ (0 : Int) < ln z7), fun _ => (x21 = true ∧ True → 0 ≤ (1 : Int) ∧ (1 : Int) < ln z7), fun wz => (x21 = true ∧ True → RetB Tryz.prog 132 ⟨[vU (bat z7 1)]⟩ (vU (strconv_lower (bat z7 1))) wz), fun _ => (((strconv_lower (bat z7 1)) == 98) = false ∧ x21 = true ∧ True → 0 ≤ (1 : Int) ∧ (1 : Int) < ln z7), fun wz => (((strconv_lower (bat z7 1)) == 98) = false ∧ x21 = true ∧ True → RetB Tryz.prog 132 ⟨[vU (bat z7 1)]⟩ (vU (strconv_lower (bat z7 1))) wz), fun _ => ((cond ((strconv_lower (bat z7 1)) == 98) true ((strconv_lower (bat z7 1)) == 111)) = false ∧ x21 = true ∧ True → 0 ≤ (1 : Int) ∧ (1 : Int) < ln z7), fun wz => ((cond ((strconv_lower (bat z7 1)) == 98) true ((strconv_lower (bat z7 1)) == 111)) = false ∧ x21 = true ∧ True → RetB Tryz.prog 132 ⟨[vU (bat z7 1)]⟩ (vU (strconv_lower (bat z7 1))) wz)] H18 (by subst hx21 hx25; kernel_rfl) ⟨fun hg => (ho20 hg.1), fun hg => (ho22 hg.1), fun hg => (strconv_lower_ok _).b, fun hg => (ho23 hg.1 hg.2.1), fun hg => (strconv_lower_ok _).b, fun hg => (ho24 hg.1 hg.2.1), fun hg => (strconv_lower_ok _).b, trivial⟩ fun _ _ H27 hb => ?_
   replace hS := hS.below hb
   clear H18 hb
   refine w_if H27 rfl (fun hc => ?_) (fun hc => ?c35)
   case c35 =>
    replace hm := bF hc hm
    apply w_skip
    obtain rfl := someE hm
    exact ⟨FrG.keep (ks := [0, 3, 4, 5]) H27 (by kernel_rfl), hS⟩
   replace hm := bT hc hm
   refine s_reg [] [0, 4] (fS [0, 4] [vS z7, vI 2]) [] H27 (by kernel_rfl) trivial fun _ _ H29 hb => ?_
   replace hS := hS.below hb
   clear H27 hb
   refine s_reg [] [0, 3, 4] (fS [0, 3, 4] [vS z7, vJ 48, vI 2]) [] H29 (by kernel_rfl) trivial fun _ _ H31 hb => ?_
   replace hS := hS.below hb
   clear H29 hb
   obtain ⟨ho32, hm⟩ := chkE hm
   refine w_reg [(vU (strconv_lower (bat z7 1)))] [0, 3, 4, 5] (fS [0, 3, 4, 5] [vS z7, vJ 48, vI 2, vB ((strconv_lower (bat z7 1)) == 120)]) [fun _ => 0 ≤ (1 : Int) ∧ (1 : Int) < ln z7, rB 132 [vU (bat z7 1)] (vU (strconv_lower (bat z7 1)))] H31 (by kernel_rfl) ⟨ho32, ((strconv_lower_ok _).b), trivial⟩ fun _ _ H34 hb => ?_
   replace hS := hS.below hb
   clear H31 hb
   obtain rfl := someE hm
   exact ⟨FrG.keep (ks := [0, 3, 4, 5]) H34 (by kernel_rfl), hS⟩
  ·rintro _ _ ⟨H, hS⟩
   obtain ⟨z36, hz, hm_z36⟩ := bindE hm
   refine w_cut (fun a' w' => ∃ s_z36 : Int, z36 = Sum.inr s_z36 ∧ Fr 94 [(3, [], vJ s_z36)] a' ∧ SH M X w [] w') ?_ ?_
   ·replace hm := hz
    apply w_block
    refine w_loop (fun kk a' w' => ∃ (v37 : Int) (v38 : Int), strconv_underscoreOK_L1 m z7 z19 kk v37 v38 = some _ ∧ Fr 94 (fS [0, 5, 3, 4] [vS z7, vB z19.2.2, vJ v37, vI v38]) a' ∧ SH M X w [] w') ⟨_, z19.1, z19.2.1, hm, FrG.keep (ks := [0, 5, 3, 4]) H (by kernel_rfl), hS⟩ ?_
    clear hm H hS
    rintro kk _ _ ⟨v37, v38, hm, H, hS⟩
    cases kk with
    | zero => exact noneE hm
    | succ kk =>
     rw [strconv_underscoreOK_L1] at hm
     apply w_seq
     refine s_reg [] [0, 3, 4, 5, 54] (fS [0, 3, 4, 5, 54] [vS z7, vJ v37, vI v38, vB z19.2.2, vB (decide (v38 < (ln z7)))]) [] H (by kernel_rfl) trivial fun _ _ H40 hb => ?_
     replace hS := hS.below hb
     clear H hb
     refine w_if H40 rfl (fun hc => ?_) (fun hc => ?c70)
     case c70 =>
      replace hm := bF hc hm
      apply w_exit rfl
      obtain rfl := someE hm
      exact ⟨_, rfl, FrG.keep (ks := [3]) H40 (by kernel_rfl), hS⟩
     replace hm := bT hc hm
     apply w_skip
     obtain ⟨z41, hz, hm_z41⟩ := bindE hm
     refine w_cut (fun a' w' => ∃ s_z41 : Int, z41 = Sum.inr s_z41 ∧ Fr 94 (fS [0, 4, 5, 3] [vS z7, vI v38, vB z19.2.2, vJ s_z41]) a' ∧ SH M X w [] w') ?_ ?_
     ·replace hm := hz
      apply w_block
      apply w_seq
      obtain ⟨ho42, hm⟩ := chkE hm
      obtain ⟨x43, hx43, hm⟩ := letE hm
      obtain ⟨x44, hx44, hm⟩ := letE hm
      refine s_reg [(vU (strconv_lower (bat z7 v38))), (vU (strconv_lower (bat z7 v38)))] [0, 3, 4, 5, 83] (fS [0, 3, 4, 5, 83] [vS z7, vJ v37, vI v38, vB z19.2.2, vB x44]) [fun _ => 0 ≤ v38 ∧ v38 < ln z7, fun _ => ((decide (48 ≤ (bat z7 v38))) = true ∧ True → 0 ≤ v38 ∧ v38 < ln z7), fun _ => (z19.2.2 = true ∧ x43 = false ∧ True → 0 ≤ v38 ∧ v38 < ln z7), fun wz => (z19.2.2 = true ∧ x43 = false ∧ True → RetB Tryz.prog 132 ⟨[vU (bat z7 v38)]⟩ (vU (strconv_lower (bat z7 v38))) wz), fun _ => ((cond z19.2.2 (decide (97 ≤ (strconv_lower (bat z7 v38)))) false) = true ∧ x43 = false ∧ True → 0 ≤ v38 ∧ v38 < ln z7), fun wz => ((cond z19.2.2 (decide (97 ≤ (strconv_lower (bat z7 v38)))) false) = true ∧ x43 = false ∧ True → RetB Tryz.prog 132 ⟨[vU (bat z7 v38)]⟩ (vU (strconv_lower (bat z7 v38))) wz)] H40 (by subst hx43 hx44; kernel_rfl) ⟨ho42, fun hg => ho42, fun hg => ho42, fun hg => (strconv_lower_ok _).b, fun hg => ho42, fun hg => (strconv_lower_ok _).b, trivial⟩ fun _ _ H46 hb => ?_
      replace hS := hS.below hb
      clear H40 hb
      refine w_if H46 rfl (fun hc => ?c66) (fun hc => ?_)
      case c66 =>
       replace hm := bT hc hm
       refine s_reg [] [0, 3, 4, 5] (fS [0, 3, 4, 5] [vS z7, vJ 48, vI v38, vB z19.2.2]) [] H46 (by kernel_rfl) trivial fun _ _ H48 hb => ?_
       replace hS := hS.below hb
       clear H46 hb
       apply w_exit rfl
       obtain rfl := someE hm
       exact ⟨_, rfl, FrG.keep (ks := [0, 4, 5, 3]) H48 (by kernel_rfl), hS⟩
      replace hm := bF hc hm
      apply w_skip
      apply w_seq
      refine s_reg [] [0, 3, 4, 5, 87] (fS [0, 3, 4, 5, 87] [vS z7, vJ v37, vI v38, vB z19.2.2, vB ((bat z7 v38) == 95)]) [fun _ => 0 ≤ v38 ∧ v38 < ln z7] H46 (by kernel_rfl) ⟨ho42, trivial⟩ fun _ _ H50 hb => ?_
      replace hS := hS.below hb
      clear H46 hb
      refine w_if H50 rfl (fun hc => ?_) (fun hc => ?c65)
      case c65 =>
       replace hm := bF hc hm
       apply w_skip
       apply w_seq
       refine s_reg [] [0, 4, 5, 91] (fS [0, 4, 5, 91] [vS z7, vI v38, vB z19.2.2, vB (v37 == 95)]) [] H50 (by kernel_rfl) trivial fun _ _ H59 hb => ?_
       replace hS := hS.below hb
       clear H50 hb
       refine w_if H59 rfl (fun hc => ?_) (fun hc => ?c64)
       case c64 =>
        replace hm := bF hc hm
        apply w_skip
        refine w_reg [] [0, 3, 4, 5] (fS [0, 3, 4, 5] [vS z7, vJ 33, vI v38, vB z19.2.2]) [] H59 (by kernel_rfl) trivial fun _ _ H63 hb => ?_
        replace hS := hS.below hb
        clear H59 hb
        obtain rfl := someE hm
        exact ⟨_, rfl, FrG.keep (ks := [0, 4, 5, 3]) H63 (by kernel_rfl), hS⟩
       replace hm := bT hc hm
       refine s_reg [] [2] [(2, [], vF)] [] H59 (by kernel_rfl) trivial fun _ _ H61 hb => ?_
       replace hS := hS.below hb
       clear H59 hb
       apply w_ret
       obtain rfl := someE hm
       have hm := hm_z41
       obtain rfl := someE hm
       have hm := hm_z36
       obtain rfl := someE hm
       exact retR1 H61 rfl rfl ⟨_, rfl, rfl, (hS.sel [] rfl)⟩
      replace hm := bT hc hm
      apply w_seq
      refine s_reg [] [0, 4, 5, 89] (fS [0, 4, 5, 89] [vS z7, vI v38, vB z19.2.2, vB (v37 != 48)]) [] H50 (by kernel_rfl) trivial fun _ _ H52 hb => ?_
      replace hS := hS.below hb
      clear H50 hb
      refine w_if H52 rfl (fun hc => ?_) (fun hc => ?c57)
      case c57 =>
       replace hm := bF hc hm
       apply w_skip
       refine s_reg [] [0, 3, 4, 5] (fS [0, 3, 4, 5] [vS z7, vJ 95, vI v38, vB z19.2.2]) [] H52 (by kernel_rfl) trivial fun _ _ H56 hb => ?_
       replace hS := hS.below hb
       clear H52 hb
       apply w_exit rfl
       obtain rfl := someE hm
       exact ⟨_, rfl, FrG.keep (ks := [0, 4, 5, 3]) H56 (by kernel_rfl), hS⟩
      replace hm := bT hc hm
      refine s_reg [] [2] [(2, [], vF)] [] H52 (by kernel_rfl) trivial fun _ _ H54 hb => ?_
      replace hS := hS.below hb
      clear H52 hb
      apply w_ret
      obtain rfl := someE hm
      have hm := hm_z41
      obtain rfl := someE hm
      have hm := hm_z36
      obtain rfl := someE hm
      exact retR1 H54 rfl rfl ⟨_, rfl, rfl, (hS.sel [] rfl)⟩
     ·rintro _ _ ⟨s_z41, hz, H, hS⟩
      subst hz
      replace hm := sumR hm_z41
      refine w_reg [] [0, 3, 4, 5] (fS [0, 3, 4, 5] [vS z7, vJ s_z41, vI (w64 (v38 + 1)), vB z19.2.2]) [] H (by kernel_rfl) trivial fun _ _ H68 hb => ?_
      replace hS := hS.below hb
      clear H hb
      exact ⟨_, Nat.lt_succ_self _, s_z41, w64 (v38 + 1), hm, FrG.keep (ks := [0, 5, 3, 4]) H68 (by kernel_rfl), hS⟩
   ·rintro _ _ ⟨s_z36, hz, H, hS⟩
    subst hz
    replace hm := sumR hm_z36
    refine s_reg [] [2] [(2, [], vB (s_z36 != 95))] [] H (by kernel_rfl) trivial fun _ _ H73 hb => ?_
    replace hS := hS.below hb
    clear H hb
    apply w_ret
    obtain rfl := someE hm
    exact retR1 H73 rfl rfl ⟨_, rfl, rfl, (hS.sel [] rfl)⟩
theorem strconv_underscoreOK_ok  (m : Nat) (s : Str) (r : Bool) (hm : strconv_underscoreOK m s = some r) : Ret Tryz.prog 133 ⟨[vS s]⟩ (vB r) := retP_of (Tryz.call133 _) (fun w h => strconv_underscoreOK_w F0 m   s r hm w h)

theorem strconv_ParseUint_2_w  (M : Av) (m : Nat) (s : Str) (base : Int) (bitSize : Int) (r : Int) (hm : strconv_ParseUint_2 m s base bitSize = some r) (w : World) (hS : S0 M [] w) : Calls Tryz.prog 118 ⟨[vS s, vI base, vI bitSize]⟩ w (fun e w' => ∃ v, e = .returned v ∧ v = vW [.int .u64 r, .nilIface] ∧ SH M (fpl []) w [] w') := by
 rw [strconv_ParseUint_2] at hm
 have hS0 : SH M (fpl []) w [] w := hS
 generalize hX : fpl [] = X at hS0 ⊢
 clear hS hX
 have hS := hS0
 clear hS0
 refine calls_entryP Tryz.func118 rfl Tryz.ntmps118 rfl fun _ H => ?_
 refine s_reg [] [0, 1, 2] (fS [0, 1, 2] [vS s, vI base, vI bitSize]) [] H (by kernel_rfl) trivial fun _ _ H2 hb => ?_
 replace hS := hS.below hb
 clear H hb
 apply w_seq
 refine s_reg [] [0, 1, 2, 19] (fS [0, 1, 2, 19] [vS s, vI base, vI bitSize, vB (s == [])]) [] H2 (by kernel_rfl) trivial fun _ _ H4 hb => ?_
 replace hS := hS.below hb
 clear H2 hb
 refine w_if H4 rfl (fun hc => ?c185) (fun hc => ?_)
 case c185 =>
  replace hm := bT hc hm
  refine s_reg [] [6, 7] (fS [6, 7] [.int .u64 0, .iface 182 (vI 2)]) [] H4 (by kernel_rfl) trivial fun _ _ H6 hb => ?_
  replace hS := hS.below hb
  clear H4 hb
  exact noneE hm
 replace hm := bF hc hm
 apply w_skip
 refine s_reg [] [0, 1, 2, 8] (fS [0, 1, 2, 8] [vS s, vI base, vI bitSize, vB (base == 0)]) [] H4 (by kernel_rfl) trivial fun _ _ H8 hb => ?_
 replace hS := hS.below hb
 clear H4 hb
 refine s_reg [] [0, 1, 2, 8, 9] (fS [0, 1, 2, 8, 9] [vS s, vI base, vI bitSize, vB (base == 0), vS s]) [] H8 (by kernel_rfl) trivial fun _ _ H10 hb => ?_
 replace hS := hS.below hb
 clear H8 hb
 obtain ⟨z11, hz, hm_z11⟩ := bindE hm
 refine w_cut (fun a' w' => ∃ s_z11 : Str × Int, z11 = Sum.inr s_z11 ∧ Fr 172 (fS [2, 8, 9, 0, 1] [vI bitSize, vB (base == 0), vS s, vS s_z11.1, vI s_z11.2]) a' ∧ SH M X w [] w') ?_ ?_
 ·replace hm := hz
  apply w_block
  obtain ⟨x12, hx12, hm⟩ := letE hm
  refine s_reg [] [0, 1, 2, 8, 9, 25] (fS [0, 1, 2, 8, 9, 25] [vS s, vI base, vI bitSize, vB (base == 0), vS s, vB x12]) [] H10 (by subst hx12; kernel_rfl) trivial fun _ _ H14 hb => ?_
  replace hS := hS.below hb
  clear H10 hb
  refine w_if H14 rfl (fun hc => ?c59) (fun hc => ?_)
  case c59 =>
   replace hm := bT hc hm
   apply w_skip
   obtain rfl := someE hm
   exact ⟨_, rfl, FrG.keep (ks := [2, 8, 9, 0, 1]) H14 (by kernel_rfl), hS⟩
  replace hm := bF hc hm
  refine s_reg [] [0, 2, 8, 9, 32] (fS [0, 2, 8, 9, 32] [vS s, vI bitSize, vB (base == 0), vS s, vB (base == 0)]) [] H14 (by kernel_rfl) trivial fun _ _ H16 hb => ?_
  replace hS := hS.below hb
  clear H14 hb
  refine w_if H16 rfl (fun hc => ?_) (fun hc => ?c58)
  case c58 =>
   replace hm := bF hc hm
   refine s_reg [] [6, 7] (fS [6, 7] [.int .u64 0, .iface 182 (vI 3)]) [] H16 (by kernel_rfl) trivial fun _ _ H57 hb => ?_
   replace hS := hS.below hb
   clear H16 hb
   exact noneE hm
  replace hm := bT hc hm
  refine s_reg [] [0, 1, 2, 8, 9] (fS [0, 1, 2, 8, 9] [vS s, vI 10, vI bitSize, vB (base == 0), vS s]) [] H16 (by kernel_rfl) trivial fun _ _ H18 hb => ?_
  replace hS := hS.below hb
  clear H16 hb
  obtain ⟨ho19, hm⟩ := chkE hm
  refine s_reg [] [0, 1, 2, 8, 9, 37] (fS [0, 1, 2, 8, 9, 37] [vS s, vI 10, vI bitSize, vB (base == 0), vS s, vB ((bat s 0) == 48)]) [fun _ => 0 ≤ (0 : Int) ∧ (0 : Int) < ln s] H18 (by kernel_rfl) ⟨ho19, trivial⟩ fun _ _ H21 hb => ?_
  replace hS := hS.below hb
  clear H18 hb
  refine w_if H21 rfl (fun hc => ?_) (fun hc => ?c55)
  case c55 =>
   replace hm := bF hc hm
   apply w_skip
   obtain rfl := someE hm
   exact ⟨_, rfl, FrG.keep (ks := [2, 8, 9, 0, 1]) H21 (by kernel_rfl), hS⟩
  replace hm := bT hc hm
  apply w_block
  obtain ⟨ho22, hm⟩ := chkE hm
  obtain ⟨x23, hx23, hm⟩ := letE hm
  refine s_reg [(vU (strconv_lower (bat s 1)))] [0, 2, 8, 9, 40] (fS [0, 2, 8, 9, 40] [vS s, vI bitSize, vB (base == 0), vS s, vB x23]) [fun _ => ((decide (3 ≤ (ln s))) = true ∧ True → 0 ≤ (1 : Int) ∧ (1 : Int) < ln s), fun wz => ((decide (3 ≤ (ln s))) = true ∧ True → RetB Tryz.prog 132 ⟨[vU (bat s 1)]⟩ (vU (strconv_lower (bat s 1))) wz)] H21 (by subst hx23; kernel_rfl) ⟨fun hg => (ho22 hg.1), fun hg => (strconv_lower_ok _).b, trivial⟩ fun _ _ H25 hb => ?_
  replace hS := hS.below hb
  clear H21 hb
  refine w_if H25 rfl (fun hc => ?c54) (fun hc => ?_)
  case c54 =>
   replace hm := bT hc hm
   refine s_reg [] [0, 1, 2, 8, 9] (fS [0, 1, 2, 8, 9] [vS s, vI 2, vI bitSize, vB (base == 0), vS s]) [] H25 (by kernel_rfl) trivial fun _ _ H27 hb => ?_
   replace hS := hS.below hb
   clear H25 hb
   obtain ⟨ho28, hm⟩ := chkE hm
   refine w_reg [] [0, 1, 2, 8, 9] (fS [0, 1, 2, 8, 9] [vS (sub s 2 (ln s)), vI 2, vI bitSize, vB (base == 0), vS s]) [fun _ => 0 ≤ (2 : Int) ∧ (2 : Int) ≤ ln s] H27 (by kernel_rfl) ⟨ho28, trivial⟩ fun _ _ H30 hb => ?_
   replace hS := hS.below hb
   clear H27 hb
   obtain rfl := someE hm
   exact ⟨_, rfl, FrG.keep (ks := [2, 8, 9, 0, 1]) H30 (by kernel_rfl), hS⟩
  replace hm := bF hc hm
  obtain ⟨x31, hx31, hm⟩ := letE hm
  refine s_reg [(vU (strconv_lower (bat s 1)))] [0, 2, 8, 9, 52] (fS [0, 2, 8, 9, 52] [vS s, vI bitSize, vB (base == 0), vS s, vB x31]) [fun _ => ((decide (3 ≤ (ln s))) = true ∧ True → 0 ≤ (1 : Int) ∧ (1 : Int) < ln s), fun wz => ((decide (3 ≤ (ln s))) = true ∧ True → RetB Tryz.prog 132 ⟨[vU (bat s 1)]⟩ (vU (strconv_lower (bat s 1))) wz)] H25 (by subst hx31; kernel_rfl) ⟨fun hg => (ho22 hg.1), fun hg => (strconv_lower_ok _).b, trivial⟩ fun _ _ H33 hb => ?_
  replace hS := hS.below hb
  clear H25 hb
  refine w_if H33 rfl (fun hc => ?c53) (fun hc => ?_)
  case c53 =>
   replace hm := bT hc hm
   refine s_reg [] [0, 1, 2, 8, 9] (fS [0, 1, 2, 8, 9] [vS s, vI 8, vI bitSize, vB (base == 0), vS s]) [] H33 (by kernel_rfl) trivial fun _ _ H35 hb => ?_
   replace hS := hS.below hb
   clear H33 hb
   obtain ⟨ho36, hm⟩ := chkE hm
   refine w_reg [] [0, 1, 2, 8, 9] (fS [0, 1, 2, 8, 9] [vS (sub s 2 (ln s)), vI 8, vI bitSize, vB (base == 0), vS s]) [fun _ => 0 ≤ (2 : Int) ∧ (2 : Int) ≤ ln s] H35 (by kernel_rfl) ⟨ho36, trivial⟩ fun _ _ H38 hb => ?_
   replace hS := hS.below hb
   clear H35 hb
   obtain rfl := someE hm
   exact ⟨_, rfl, FrG.keep (ks := [2, 8, 9, 0, 1]) H38 (by kernel_rfl), hS⟩
  replace hm := bF hc hm
  obtain ⟨x39, hx39, hm⟩ := letE hm
  refine s_reg [(vU (strconv_lower (bat s 1)))] [0, 2, 8, 9, 64] (fS [0, 2, 8, 9, 64] [vS s, vI bitSize, vB (base == 0), vS s, vB x39]) [fun _ => ((decide (3 ≤ (ln s))) = true ∧ True → 0 ≤ (1 : Int) ∧ (1 : Int) < ln s), fun wz => ((decide (3 ≤ (ln s))) = true ∧ True → RetB Tryz.prog 132 ⟨[vU (bat s 1)]⟩ (vU (strconv_lower (bat s 1))) wz)] H33 (by subst hx39; kernel_rfl) ⟨fun hg => (ho22 hg.1), fun hg => (strconv_lower_ok _).b, trivial⟩ fun _ _ H41 hb => ?_
  replace hS := hS.below hb
  clear H33 hb
  refine w_if H41 rfl (fun hc => ?_) (fun hc => ?c52)
  case c52 =>
   replace hm := bF hc hm
   refine s_reg [] [0, 1, 2, 8, 9] (fS [0, 1, 2, 8, 9] [vS s, vI 8, vI bitSize, vB (base == 0), vS s]) [] H41 (by kernel_rfl) trivial fun _ _ H48 hb => ?_
   replace hS := hS.below hb
   clear H41 hb
   obtain ⟨ho49, hm⟩ := chkE hm
   refine w_reg [] [0, 1, 2, 8, 9] (fS [0, 1, 2, 8, 9] [vS (sub s 1 (ln s)), vI 8, vI bitSize, vB (base == 0), vS s]) [fun _ => 0 ≤ (1 : Int) ∧ (1 : Int) ≤ ln s] H48 (by kernel_rfl) ⟨ho49, trivial⟩ fun _ _ H51 hb => ?_
   replace hS := hS.below hb
   clear H48 hb
   obtain rfl := someE hm
   exact ⟨_, rfl, FrG.keep (ks := [2, 8, 9, 0, 1]) H51 (by kernel_rfl), hS⟩
  replace hm := bT hc hm
  refine s_reg [] [0, 1, 2, 8, 9] (fS [0, 1, 2, 8, 9] [vS s, vI 16, vI bitSize, vB (base == 0), vS s]) [] H41 (by kernel_rfl) trivial fun _ _ H43 hb => ?_
  replace hS := hS.below hb
  clear H41 hb
  obtain ⟨ho44, hm⟩ := chkE hm
  refine w_reg [] [0, 1, 2, 8, 9] (fS [0, 1, 2, 8, 9] [vS (sub s 2 (ln s)), vI 16, vI bitSize, vB (base == 0), vS s]) [fun _ => 0 ≤ (2 : Int) ∧ (2 : Int) ≤ ln s] H43 (by kernel_rfl) ⟨ho44, trivial⟩ fun _ _ H46 hb => ?_
  replace hS := hS.below hb
  clear H43 hb
  obtain rfl := someE hm
  exact ⟨_, rfl, FrG.keep (ks := [2, 8, 9, 0, 1]) H46 (by kernel_rfl), hS⟩
 ·rintro _ _ ⟨s_z11, hz, H, hS⟩
  subst hz
  replace hm := sumR hm_z11
  obtain ⟨z60, hz, hm_z60⟩ := bindE hm
  refine w_cut (fun a' w' => ∃ s_z60 : Int, z60 = Sum.inr s_z60 ∧ Fr 172 (fS [0, 1, 8, 9, 2] [vS s_z11.1, vI s_z11.2, vB (base == 0), vS s, vI s_z60]) a' ∧ SH M X w [] w') ?_ ?_
  ·replace hm := hz
   refine s_reg [] [0, 1, 2, 8, 9, 77] (fS [0, 1, 2, 8, 9, 77] [vS s_z11.1, vI s_z11.2, vI bitSize, vB (base == 0), vS s, vB (bitSize == 0)]) [] H (by kernel_rfl) trivial fun _ _ H62 hb => ?_
   replace hS := hS.below hb
   clear H hb
   refine w_if H62 rfl (fun hc => ?c71) (fun hc => ?_)
   case c71 =>
    replace hm := bT hc hm
    refine w_reg [] [0, 1, 2, 8, 9] (fS [0, 1, 2, 8, 9] [vS s_z11.1, vI s_z11.2, vI 64, vB (base == 0), vS s]) [] H62 (by kernel_rfl) trivial fun _ _ H64 hb => ?_
    replace hS := hS.below hb
    clear H62 hb
    obtain rfl := someE hm
    exact ⟨_, rfl, FrG.keep (ks := [0, 1, 8, 9, 2]) H64 (by kernel_rfl), hS⟩
   replace hm := bF hc hm
   obtain ⟨x65, hx65, hm⟩ := letE hm
   refine s_reg [] [0, 1, 2, 8, 9, 83] (fS [0, 1, 2, 8, 9, 83] [vS s_z11.1, vI s_z11.2, vI bitSize, vB (base == 0), vS s, vB x65]) [] H62 (by subst hx65; kernel_rfl) trivial fun _ _ H67 hb => ?_
   replace hS := hS.below hb
   clear H62 hb
   refine w_if H67 rfl (fun hc => ?_) (fun hc => ?c70)
   case c70 =>
    replace hm := bF hc hm
    apply w_skip
    obtain rfl := someE hm
    exact ⟨_, rfl, FrG.keep (ks := [0, 1, 8, 9, 2]) H67 (by kernel_rfl), hS⟩
   replace hm := bT hc hm
   refine s_reg [] [6, 7] (fS [6, 7] [.int .u64 0, .iface 182 (vI 4)]) [] H67 (by kernel_rfl) trivial fun _ _ H69 hb => ?_
   replace hS := hS.below hb
   clear H67 hb
   exact noneE hm
  ·rintro _ _ ⟨s_z60, hz, H, hS⟩
   subst hz
   replace hm := sumR hm_z60
   refine s_reg [] [0, 1, 2, 8, 9] (fS [0, 1, 2, 8, 9] [vS s_z11.1, vI s_z11.2, vI s_z60, vB (base == 0), vS s]) [] H (by kernel_rfl) trivial fun _ _ H73 hb => ?_
   replace hS := hS.below hb
   clear H hb
   obtain ⟨z74, hz, hm⟩ := bindE hm
   refine w_cut (fun a' w' => Fr 172 (fS [0, 1, 2, 8, 9, 10] [vS s_z11.1, vI s_z11.2, vI s_z60, vB (base == 0), vS s, .int .u64 z74]) a' ∧ SH M X w [] w') ?_ ?_
   ·replace hm := hz
    refine s_reg [] [0, 1, 2, 8, 9, 85] (fS [0, 1, 2, 8, 9, 85] [vS s_z11.1, vI s_z11.2, vI s_z60, vB (base == 0), vS s, vI s_z11.2]) [] H73 (by kernel_rfl) trivial fun _ _ H76 hb => ?_
    replace hS := hS.below hb
    clear H73 hb
    apply w_block
    refine s_reg [] [0, 1, 2, 8, 9, 85, 90] (fS [0, 1, 2, 8, 9, 85, 90] [vS s_z11.1, vI s_z11.2, vI s_z60, vB (base == 0), vS s, vI s_z11.2, vB (s_z11.2 == 10)]) [] H76 (by kernel_rfl) trivial fun _ _ H78 hb => ?_
    replace hS := hS.below hb
    clear H76 hb
    refine w_if H78 rfl (fun hc => ?c90) (fun hc => ?_)
    case c90 =>
     replace hm := bT hc hm
     refine w_reg [] [0, 1, 2, 8, 9, 10] (fS [0, 1, 2, 8, 9, 10] [vS s_z11.1, vI s_z11.2, vI s_z60, vB (base == 0), vS s, .int .u64 1844674407370955162]) [] H78 (by kernel_rfl) trivial fun _ _ H80 hb => ?_
     replace hS := hS.below hb
     clear H78 hb
     obtain rfl := someE hm
     exact ⟨FrG.keep (ks := [0, 1, 2, 8, 9, 10]) H80 (by kernel_rfl), hS⟩
    replace hm := bF hc hm
    refine s_reg [] [0, 1, 2, 8, 9, 92] (fS [0, 1, 2, 8, 9, 92] [vS s_z11.1, vI s_z11.2, vI s_z60, vB (base == 0), vS s, vB (s_z11.2 == 16)]) [] H78 (by kernel_rfl) trivial fun _ _ H82 hb => ?_
    replace hS := hS.below hb
    clear H78 hb
    refine w_if H82 rfl (fun hc => ?c89) (fun hc => ?_)
    case c89 =>
     replace hm := bT hc hm
     refine w_reg [] [0, 1, 2, 8, 9, 10] (fS [0, 1, 2, 8, 9, 10] [vS s_z11.1, vI s_z11.2, vI s_z60, vB (base == 0), vS s, .int .u64 1152921504606846976]) [] H82 (by kernel_rfl) trivial fun _ _ H84 hb => ?_
     replace hS := hS.below hb
     clear H82 hb
     obtain rfl := someE hm
     exact ⟨FrG.keep (ks := [0, 1, 2, 8, 9, 10]) H84 (by kernel_rfl), hS⟩
    replace hm := bF hc hm
    obtain ⟨ho85, hm⟩ := chkE hm
    obtain ⟨x86, hx86, hm⟩ := letE hm
    refine w_reg [] [0, 1, 2, 8, 9, 10] (fS [0, 1, 2, 8, 9, 10] [vS s_z11.1, vI s_z11.2, vI s_z60, vB (base == 0), vS s, .int .u64 (wu64 (x86 + 1))]) [fun _ => (wu64 s_z11.2) ≠ 0] H82 (by subst hx86; kernel_rfl) ⟨ho85, trivial⟩ fun _ _ H88 hb => ?_
    replace hS := hS.below hb
    clear H82 hb
    obtain rfl := someE hm
    exact ⟨FrG.keep (ks := [0, 1, 2, 8, 9, 10]) H88 (by kernel_rfl), hS⟩
   ·rintro _ _ ⟨H, hS⟩
    obtain ⟨ho91, hm⟩ := chkE hm
    obtain ⟨x92, hx92, hm⟩ := letE hm
    refine s_reg [] [0, 1, 8, 9, 10, 11] (fS [0, 1, 8, 9, 10, 11] [vS s_z11.1, vI s_z11.2, vB (base == 0), vS s, .int .u64 z74, .int .u64 (wu64 (x92 - 1))]) [fun _ => 0 ≤ (wu64 s_z60)] H (by subst hx92; kernel_rfl) ⟨ho91, trivial⟩ fun _ _ H94 hb => ?_
    replace hS := hS.below hb
    clear H hb
    refine s_reg [] [0, 1, 8, 9, 10, 11, 12] (fS [0, 1, 8, 9, 10, 11, 12] [vS s_z11.1, vI s_z11.2, vB (base == 0), vS s, .int .u64 z74, .int .u64 (wu64 (x92 - 1)), vF]) [] H94 (by kernel_rfl) trivial fun _ _ H96 hb => ?_
    replace hS := hS.below hb
    clear H94 hb
    refine s_reg [] [0, 1, 8, 9, 10, 11, 12, 13] (fS [0, 1, 8, 9, 10, 11, 12, 13] [vS s_z11.1, vI s_z11.2, vB (base == 0), vS s, .int .u64 z74, .int .u64 (wu64 (x92 - 1)), vF, .int .u64 0]) [] H96 (by kernel_rfl) trivial fun _ _ H98 hb => ?_
    replace hS := hS.below hb
    clear H96 hb
    obtain ⟨z99, hz, hm_z99⟩ := bindE hm
    refine w_cut (fun a' w' => ∃ s_z99 : Bool × Int, z99 = Sum.inr s_z99 ∧ Fr 172 (fS [9, 12, 13] [vS s, vB s_z99.1, .int .u64 s_z99.2]) a' ∧ SH M X w [] w') ?_ ?_
    ·replace hm := hz
     apply w_seq
     apply wl_start
     refine wl_batch 0 1 [] [1, 8, 9, 10, 11, 12, 13, 98] (fS [1, 8, 9, 10, 11, 12, 13, 98] [vI s_z11.2, vB (base == 0), vS s, .int .u64 z74, .int .u64 (wu64 (x92 - 1)), vF, .int .u64 0, vS s_z11.1]) [] H98 (by decide) (by kernel_rfl) trivial fun _ _ H101 hb => ?_
     replace hS := hS.below hb
     clear H98 hb
     have hd := hS.hand [] [] rfl rfl
     refine m_stp [99, 1, 8, 9, 10, 11, 12, 13] (fS [1, 8, 9, 10, 11, 12, 13] [vI s_z11.2, vB (base == 0), vS s, .int .u64 z74, .int .u64 (wu64 (x92 - 1)), vF, .int .u64 0]) H101 rfl rfl rfl rfl (o_bytes (E := 5) H101 hd rfl (by kernel_rfl) (by kernel_rfl) (by kernel_rfl)) (fun _ => rfl) fun _ _ v H105 hq => ?_
     clear H101 hd
     obtain ⟨b102, c103, rfl, hc_b102, hq⟩ := hq
     replace hS : SH M X w [Ent.row .u8 b102 (ofB s_z11.1) (ln (ofB s_z11.1))] _ := hS.join [] [] rfl rfl hq
     clear hq
     refine wl_batch 2 4 [] [1, 8, 9, 10, 11, 12, 13, 99, 100, 101] (fS [1, 8, 9, 10, 11, 12, 13, 99, 100, 101] [vI s_z11.2, vB (base == 0), vS s, .int .u64 z74, .int .u64 (wu64 (x92 - 1)), vF, .int .u64 0, .slice (some ⟨b102, 0, none⟩) ((ofB s_z11.1).length) c103, vI (ln (ofB s_z11.1)), vI 0]) [] H105 (by decide) (by kernel_rfl) trivial fun _ _ H107 hb => ?_
     replace hS := hS.below hb
     clear H105 hb
     apply wl_end rfl
     apply w_block
     refine w_loop (fun kk a' w' => ∃ (v108 : Bool) (v109 : Int) (v110 : Int), strconv_ParseUint_2_L1 m base s_z11 z74 x92 kk v108 v109 v110 = some _ ∧ Fr 172 (fS [1, 8, 9, 10, 11, 99, 100, 12, 13, 101] [vI s_z11.2, vB (base == 0), vS s, .int .u64 z74, .int .u64 (wu64 (x92 - 1)), .slice (some ⟨b102, 0, none⟩) ((ofB s_z11.1).length) c103, vI (ln (ofB s_z11.1)), vB v108, .int .u64 v109, vI v110]) a' ∧ SH M X w [Ent.row .u8 b102 (ofB s_z11.1) (ln (ofB s_z11.1))] w') ⟨_, false, 0, 0, hm, FrG.keep (ks := [1, 8, 9, 10, 11, 99, 100, 12, 13, 101]) H107 (by kernel_rfl), hS⟩ ?_
     clear hm H107 hS
     rintro kk _ _ ⟨v108, v109, v110, hm, H, hS⟩
     cases kk with
     | zero => exact noneE hm
     | succ kk =>
      rw [strconv_ParseUint_2_L1] at hm
      refine s_reg [] [1, 8, 9, 10, 11, 12, 13, 99, 100, 101, 102] (fS [1, 8, 9, 10, 11, 12, 13, 99, 100, 101, 102] [vI s_z11.2, vB (base == 0), vS s, .int .u64 z74, .int .u64 (wu64 (x92 - 1)), vB v108, .int .u64 v109, .slice (some ⟨b102, 0, none⟩) ((ofB s_z11.1).length) c103, vI (ln (ofB s_z11.1)), vI v110, vB (decide (v110 < (ln (ofB s_z11.1))))]) [] H (by kernel_rfl) trivial fun _ _ H112 hb => ?_
      replace hS := hS.below hb
      clear H hb
      apply w_seq
      refine w_if H112 rfl (fun hc => ?_) (fun hc => ?c171)
      case c171 =>
       replace hm := bF hc hm
       apply w_exit rfl
       obtain rfl := someE hm
       replace hS : SH M X w [] _ := hS.sel [] rfl
       exact ⟨_, rfl, FrG.keep (ks := [9, 12, 13]) H112 (by kernel_rfl), hS⟩
      replace hm := bT hc hm
      apply w_skip
      obtain ⟨z113, hz, hm_z113⟩ := bindE hm
      refine w_cut (fun a' w' => ∃ s_z113 : Bool × Int, z113 = Sum.inr s_z113 ∧ Fr 172 (fS [1, 8, 9, 10, 11, 99, 100, 101, 12, 13] [vI s_z11.2, vB (base == 0), vS s, .int .u64 z74, .int .u64 (wu64 (x92 - 1)), .slice (some ⟨b102, 0, none⟩) ((ofB s_z11.1).length) c103, vI (ln (ofB s_z11.1)), vI v110, vB s_z113.1, .int .u64 s_z113.2]) a' ∧ SH M X w [Ent.row .u8 b102 (ofB s_z11.1) (ln (ofB s_z11.1))] w') ?_ ?_
      ·replace hm := hz
       apply w_block
       obtain ⟨ho114, hm⟩ := chkE hm
       refine s_reg [(vU (gi (ofB s_z11.1) v110))] [1, 8, 9, 10, 11, 12, 13, 15, 99, 100, 101] (fS [1, 8, 9, 10, 11, 12, 13, 15, 99, 100, 101] [vI s_z11.2, vB (base == 0), vS s, .int .u64 z74, .int .u64 (wu64 (x92 - 1)), vB v108, .int .u64 v109, vU (gi (ofB s_z11.1) v110), .slice (some ⟨b102, 0, none⟩) ((ofB s_z11.1).length) c103, vI (ln (ofB s_z11.1)), vI v110]) [fun _ => oka (some ⟨b102, 0, none⟩) ∧ 0 ≤ v110 ∧ v110 < ln (ofB s_z11.1), fun wz => V.at1 ⟨b102, 0 + (v110).toNat * 1, none⟩ (vU (gi (ofB s_z11.1) v110)) wz] H112 (by kernel_rfl) ⟨(⟨rfl, ho114⟩), (Rw.ixn (hS.rw 0 rfl) ho114), trivial⟩ fun _ _ H116 hb => ?_
       replace hS := hS.below hb
       clear H112 hb
       refine s_reg [] [1, 8, 9, 10, 11, 12, 13, 15, 99, 100, 101] (fS [1, 8, 9, 10, 11, 12, 13, 15, 99, 100, 101] [vI s_z11.2, vB (base == 0), vS s, .int .u64 z74, .int .u64 (wu64 (x92 - 1)), vB v108, .int .u64 v109, vU (gi (ofB s_z11.1) v110), .slice (some ⟨b102, 0, none⟩) ((ofB s_z11.1).length) c103, vI (ln (ofB s_z11.1)), vI v110]) [] H116 (by kernel_rfl) trivial fun _ _ H118 hb => ?_
       replace hS := hS.below hb
       clear H116 hb
       obtain ⟨z119, hz, hm_z119⟩ := bindE hm
       refine w_cut (fun a' w' => ∃ s_z119 : Bool × Int, z119 = Sum.inr s_z119 ∧ Fr 172 (fS [1, 8, 9, 10, 11, 13, 99, 100, 101, 12, 16] [vI s_z11.2, vB (base == 0), vS s, .int .u64 z74, .int .u64 (wu64 (x92 - 1)), .int .u64 v109, .slice (some ⟨b102, 0, none⟩) ((ofB s_z11.1).length) c103, vI (ln (ofB s_z11.1)), vI v110, vB s_z119.1, vU s_z119.2]) a' ∧ SH M X w [Ent.row .u8 b102 (ofB s_z11.1) (ln (ofB s_z11.1))] w') ?_ ?_
       ·replace hm := hz
        apply w_block
        obtain ⟨x120, hx120, hm⟩ := letE hm
        refine s_reg [] [1, 8, 9, 10, 11, 12, 13, 15, 99, 100, 101, 106] (fS [1, 8, 9, 10, 11, 12, 13, 15, 99, 100, 101, 106] [vI s_z11.2, vB (base == 0), vS s, .int .u64 z74, .int .u64 (wu64 (x92 - 1)), vB v108, .int .u64 v109, vU (gi (ofB s_z11.1) v110), .slice (some ⟨b102, 0, none⟩) ((ofB s_z11.1).length) c103, vI (ln (ofB s_z11.1)), vI v110, vB x120]) [] H118 (by subst hx120; kernel_rfl) trivial fun _ _ H122 hb => ?_
        replace hS := hS.below hb
        clear H118 hb
        refine w_if H122 rfl (fun hc => ?c142) (fun hc => ?_)
        case c142 =>
         replace hm := bT hc hm
         refine s_reg [] [1, 8, 9, 10, 11, 12, 13, 99, 100, 101] (fS [1, 8, 9, 10, 11, 12, 13, 99, 100, 101] [vI s_z11.2, vB (base == 0), vS s, .int .u64 z74, .int .u64 (wu64 (x92 - 1)), vT, .int .u64 v109, .slice (some ⟨b102, 0, none⟩) ((ofB s_z11.1).length) c103, vI (ln (ofB s_z11.1)), vI v110]) [] H122 (by kernel_rfl) trivial fun _ _ H124 hb => ?_
         replace hS := hS.below hb
         clear H122 hb
         apply w_exit rfl
         obtain ⟨r125, hr_r125, hm⟩ := bindE hm
         obtain rfl := someE hm
         have hm := hm_z119
         obtain rfl := someE hm
         have hm := hr_r125
         clear hr_r125
         obtain rfl := someE hm
         exact ⟨_, rfl, FrG.keep (ks := [1, 8, 9, 10, 11, 99, 100, 101, 12, 13]) H124 (by kernel_rfl), hS⟩
        replace hm := bF hc hm
        obtain ⟨x126, hx126, hm⟩ := letE hm
        refine s_reg [] [1, 8, 9, 10, 11, 12, 13, 15, 99, 100, 101, 112] (fS [1, 8, 9, 10, 11, 12, 13, 15, 99, 100, 101, 112] [vI s_z11.2, vB (base == 0), vS s, .int .u64 z74, .int .u64 (wu64 (x92 - 1)), vB v108, .int .u64 v109, vU (gi (ofB s_z11.1) v110), .slice (some ⟨b102, 0, none⟩) ((ofB s_z11.1).length) c103, vI (ln (ofB s_z11.1)), vI v110, vB x126]) [] H122 (by subst hx126; kernel_rfl) trivial fun _ _ H128 hb => ?_
        replace hS := hS.below hb
        clear H122 hb
        refine w_if H128 rfl (fun hc => ?c141) (fun hc => ?_)
        case c141 =>
         replace hm := bT hc hm
         refine w_reg [] [1, 8, 9, 10, 11, 12, 13, 16, 99, 100, 101] (fS [1, 8, 9, 10, 11, 12, 13, 16, 99, 100, 101] [vI s_z11.2, vB (base == 0), vS s, .int .u64 z74, .int .u64 (wu64 (x92 - 1)), vB v108, .int .u64 v109, vU (wu8 ((gi (ofB s_z11.1) v110) - 48)), .slice (some ⟨b102, 0, none⟩) ((ofB s_z11.1).length) c103, vI (ln (ofB s_z11.1)), vI v110]) [] H128 (by kernel_rfl) trivial fun _ _ H130 hb => ?_
         replace hS := hS.below hb
         clear H128 hb
         obtain rfl := someE hm
         exact ⟨_, rfl, FrG.keep (ks := [1, 8, 9, 10, 11, 13, 99, 100, 101, 12, 16]) H130 (by kernel_rfl), hS⟩
        replace hm := bF hc hm
        obtain ⟨x131, hx131, hm⟩ := letE hm
        obtain ⟨x132, hx132, hm⟩ := letE hm
        refine s_reg [(vU (strconv_lower (gi (ofB s_z11.1) v110))), (vU (strconv_lower (gi (ofB s_z11.1) v110)))] [1, 8, 9, 10, 11, 12, 13, 15, 99, 100, 101, 121] (fS [1, 8, 9, 10, 11, 12, 13, 15, 99, 100, 101, 121] [vI s_z11.2, vB (base == 0), vS s, .int .u64 z74, .int .u64 (wu64 (x92 - 1)), vB v108, .int .u64 v109, vU (gi (ofB s_z11.1) v110), .slice (some ⟨b102, 0, none⟩) ((ofB s_z11.1).length) c103, vI (ln (ofB s_z11.1)), vI v110, vB x132]) [rB 132 [vU (gi (ofB s_z11.1) v110)] (vU (strconv_lower (gi (ofB s_z11.1) v110))), fun wz => (x131 = true ∧ True → RetB Tryz.prog 132 ⟨[vU (gi (ofB s_z11.1) v110)]⟩ (vU (strconv_lower (gi (ofB s_z11.1) v110))) wz)] H128 (by subst hx131 hx132; kernel_rfl) ⟨((strconv_lower_ok _).b), fun hg => (strconv_lower_ok _).b, trivial⟩ fun _ _ H134 hb => ?_
        replace hS := hS.below hb
        clear H128 hb
        refine w_if H134 rfl (fun hc => ?_) (fun hc => ?c140)
        case c140 =>
         replace hm := bF hc hm
         refine s_reg [] [6, 7] (fS [6, 7] [.int .u64 0, .iface 182 (vI 2)]) [] H134 (by kernel_rfl) trivial fun _ _ H139 hb => ?_
         replace hS := hS.below hb
         clear H134 hb
         exact noneE hm
        replace hm := bT hc hm
        obtain ⟨x135, hx135, hm⟩ := letE hm
        refine w_reg [(vU (strconv_lower (gi (ofB s_z11.1) v110)))] [1, 8, 9, 10, 11, 12, 13, 16, 99, 100, 101] (fS [1, 8, 9, 10, 11, 12, 13, 16, 99, 100, 101] [vI s_z11.2, vB (base == 0), vS s, .int .u64 z74, .int .u64 (wu64 (x92 - 1)), vB v108, .int .u64 v109, vU (wu8 (x135 + 10)), .slice (some ⟨b102, 0, none⟩) ((ofB s_z11.1).length) c103, vI (ln (ofB s_z11.1)), vI v110]) [rB 132 [vU (gi (ofB s_z11.1) v110)] (vU (strconv_lower (gi (ofB s_z11.1) v110)))] H134 (by subst hx135; kernel_rfl) ⟨((strconv_lower_ok _).b), trivial⟩ fun _ _ H137 hb => ?_
        replace hS := hS.below hb
        clear H134 hb
        obtain rfl := someE hm
        exact ⟨_, rfl, FrG.keep (ks := [1, 8, 9, 10, 11, 13, 99, 100, 101, 12, 16]) H137 (by kernel_rfl), hS⟩
       ·rintro _ _ ⟨s_z119, hz, H, hS⟩
        subst hz
        replace hm := sumR hm_z119
        apply w_seq
        refine s_reg [] [1, 8, 9, 10, 11, 12, 13, 16, 99, 100, 101, 137] (fS [1, 8, 9, 10, 11, 12, 13, 16, 99, 100, 101, 137] [vI s_z11.2, vB (base == 0), vS s, .int .u64 z74, .int .u64 (wu64 (x92 - 1)), vB s_z119.1, .int .u64 v109, vU s_z119.2, .slice (some ⟨b102, 0, none⟩) ((ofB s_z11.1).length) c103, vI (ln (ofB s_z11.1)), vI v110, vB (decide ((wu8 s_z11.2) ≤ s_z119.2))]) [] H (by kernel_rfl) trivial fun _ _ H144 hb => ?_
        replace hS := hS.below hb
        clear H hb
        refine w_if H144 rfl (fun hc => ?c166) (fun hc => ?_)
        case c166 =>
         replace hm := bT hc hm
         refine s_reg [] [6, 7] (fS [6, 7] [.int .u64 0, .iface 182 (vI 2)]) [] H144 (by kernel_rfl) trivial fun _ _ H146 hb => ?_
         replace hS := hS.below hb
         clear H144 hb
         exact noneE hm
        replace hm := bF hc hm
        apply w_skip
        apply w_seq
        refine s_reg [] [1, 8, 9, 10, 11, 12, 13, 16, 99, 100, 101, 141] (fS [1, 8, 9, 10, 11, 12, 13, 16, 99, 100, 101, 141] [vI s_z11.2, vB (base == 0), vS s, .int .u64 z74, .int .u64 (wu64 (x92 - 1)), vB s_z119.1, .int .u64 v109, vU s_z119.2, .slice (some ⟨b102, 0, none⟩) ((ofB s_z11.1).length) c103, vI (ln (ofB s_z11.1)), vI v110, vB (decide (z74 ≤ v109))]) [] H144 (by kernel_rfl) trivial fun _ _ H148 hb => ?_
        replace hS := hS.below hb
        clear H144 hb
        refine w_if H148 rfl (fun hc => ?c165) (fun hc => ?_)
        case c165 =>
         replace hm := bT hc hm
         refine s_reg [] [6, 7] (fS [6, 7] [.int .u64 (wu64 (x92 - 1)), .iface 182 (vI 1)]) [] H148 (by kernel_rfl) trivial fun _ _ H150 hb => ?_
         replace hS := hS.below hb
         clear H148 hb
         exact noneE hm
        replace hm := bF hc hm
        apply w_skip
        refine s_reg [] [1, 8, 9, 10, 11, 12, 13, 16, 99, 100, 101] (fS [1, 8, 9, 10, 11, 12, 13, 16, 99, 100, 101] [vI s_z11.2, vB (base == 0), vS s, .int .u64 z74, .int .u64 (wu64 (x92 - 1)), vB s_z119.1, .int .u64 (wu64 (v109 * (wu64 s_z11.2))), vU s_z119.2, .slice (some ⟨b102, 0, none⟩) ((ofB s_z11.1).length) c103, vI (ln (ofB s_z11.1)), vI v110]) [] H148 (by kernel_rfl) trivial fun _ _ H152 hb => ?_
        replace hS := hS.below hb
        clear H148 hb
        obtain ⟨x153, hx153, hm⟩ := letE hm
        refine s_reg [] [1, 8, 9, 10, 11, 12, 13, 17, 99, 100, 101] (fS [1, 8, 9, 10, 11, 12, 13, 17, 99, 100, 101] [vI s_z11.2, vB (base == 0), vS s, .int .u64 z74, .int .u64 (wu64 (x92 - 1)), vB s_z119.1, .int .u64 (wu64 (v109 * (wu64 s_z11.2))), .int .u64 x153, .slice (some ⟨b102, 0, none⟩) ((ofB s_z11.1).length) c103, vI (ln (ofB s_z11.1)), vI v110]) [] H152 (by subst hx153; kernel_rfl) trivial fun _ _ H155 hb => ?_
        replace hS := hS.below hb
        clear H152 hb
        apply w_seq
        obtain ⟨x156, hx156, hm⟩ := letE hm
        obtain ⟨x157, hx157, hm⟩ := letE hm
        refine s_reg [] [1, 8, 9, 10, 11, 12, 17, 99, 100, 101, 159] (fS [1, 8, 9, 10, 11, 12, 17, 99, 100, 101, 159] [vI s_z11.2, vB (base == 0), vS s, .int .u64 z74, .int .u64 (wu64 (x92 - 1)), vB s_z119.1, .int .u64 x153, .slice (some ⟨b102, 0, none⟩) ((ofB s_z11.1).length) c103, vI (ln (ofB s_z11.1)), vI v110, vB x157]) [] H155 (by subst hx156 hx157; kernel_rfl) trivial fun _ _ H159 hb => ?_
        replace hS := hS.below hb
        clear H155 hb
        refine w_if H159 rfl (fun hc => ?c164) (fun hc => ?_)
        case c164 =>
         replace hm := bT hc hm
         refine s_reg [] [6, 7] (fS [6, 7] [.int .u64 (wu64 (x92 - 1)), .iface 182 (vI 1)]) [] H159 (by kernel_rfl) trivial fun _ _ H161 hb => ?_
         replace hS := hS.below hb
         clear H159 hb
         exact noneE hm
        replace hm := bF hc hm
        apply w_skip
        refine w_reg [] [1, 8, 9, 10, 11, 12, 13, 99, 100, 101] (fS [1, 8, 9, 10, 11, 12, 13, 99, 100, 101] [vI s_z11.2, vB (base == 0), vS s, .int .u64 z74, .int .u64 (wu64 (x92 - 1)), vB s_z119.1, .int .u64 x153, .slice (some ⟨b102, 0, none⟩) ((ofB s_z11.1).length) c103, vI (ln (ofB s_z11.1)), vI v110]) [] H159 (by kernel_rfl) trivial fun _ _ H163 hb => ?_
        replace hS := hS.below hb
        clear H159 hb
        obtain rfl := someE hm
        exact ⟨_, rfl, FrG.keep (ks := [1, 8, 9, 10, 11, 99, 100, 101, 12, 13]) H163 (by kernel_rfl), hS⟩
      ·rintro _ _ ⟨s_z113, hz, H, hS⟩
       subst hz
       replace hm := sumR hm_z113
       refine w_reg [] [1, 8, 9, 10, 11, 12, 13, 99, 100, 101] (fS [1, 8, 9, 10, 11, 12, 13, 99, 100, 101] [vI s_z11.2, vB (base == 0), vS s, .int .u64 z74, .int .u64 (wu64 (x92 - 1)), vB s_z113.1, .int .u64 s_z113.2, .slice (some ⟨b102, 0, none⟩) ((ofB s_z11.1).length) c103, vI (ln (ofB s_z11.1)), vI (w64 (v110 + 1))]) [] H (by kernel_rfl) trivial fun _ _ H169 hb => ?_
       replace hS := hS.below hb
       clear H hb
       exact ⟨_, Nat.lt_succ_self _, s_z113.1, s_z113.2, w64 (v110 + 1), hm, FrG.keep (ks := [1, 8, 9, 10, 11, 99, 100, 12, 13, 101]) H169 (by kernel_rfl), hS⟩
    ·rintro _ _ ⟨s_z99, hz, H, hS⟩
     subst hz
     replace hm := sumR hm_z99
     apply w_seq
     obtain ⟨y173, hy173, hm⟩ := bindE hm
     refine s_reg [(vB y173)] [13, 169] (fS [13, 169] [.int .u64 s_z99.2, vB (cond s_z99.1 (!y173) false)]) [fun wz => (s_z99.1 = true ∧ True → RetB Tryz.prog 133 ⟨[vS s]⟩ (vB y173) wz)] H (by kernel_rfl) ⟨fun hg => (strconv_underscoreOK_ok m _ _ (bT (hg.1) hy173)).b, trivial⟩ fun _ _ H175 hb => ?_
     replace hS := hS.below hb
     clear H hb
     refine w_if H175 rfl (fun hc => ?c180) (fun hc => ?_)
     case c180 =>
      replace hm := bT hc hm
      refine s_reg [] [6, 7] (fS [6, 7] [.int .u64 0, .iface 182 (vI 2)]) [] H175 (by kernel_rfl) trivial fun _ _ H177 hb => ?_
      replace hS := hS.below hb
      clear H175 hb
      exact noneE hm
     replace hm := bF hc hm
     apply w_skip
     refine s_reg [] [6, 7] (fS [6, 7] [.int .u64 s_z99.2, .nilIface]) [] H175 (by kernel_rfl) trivial fun _ _ H179 hb => ?_
     replace hS := hS.below hb
     clear H175 hb
     apply w_ret
     obtain rfl := someE hm
     exact retR2 H179 rfl rfl rfl ⟨_, rfl, rfl, (hS.sel [] rfl)⟩
theorem strconv_ParseUint_2_ok  (m : Nat) (s : Str) (base : Int) (bitSize : Int) (r : Int) (hm : strconv_ParseUint_2 m s base bitSize = some r) : Ret Tryz.prog 118 ⟨[vS s, vI base, vI bitSize]⟩ (vW [.int .u64 r, .nilIface]) := retP_of (Tryz.call118 _) (fun w h => strconv_ParseUint_2_w F0 m   s base bitSize r hm w h)

theorem strconv_ParseUint_w  (M : Av) (m : Nat) (s : Str) (base : Int) (bitSize : Int) (r : Int) (hm : strconv_ParseUint m s base bitSize = some r) (w : World) (hS : S0 M [] w) : Calls Tryz.prog 98 ⟨[vS s, vI base, vI bitSize]⟩ w (fun e w' => ∃ v, e = .returned v ∧ v = vW [.int .u64 r, .nilIface] ∧ SH M (fpl []) w [] w') := by
 rw [strconv_ParseUint] at hm
 have hS0 : SH M (fpl []) w [] w := hS
 generalize hX : fpl [] = X at hS0 ⊢
 clear hS hX
 have hS := hS0
 clear hS0
 refine calls_entryP Tryz.func98 rfl Tryz.ntmps98 rfl fun _ H => ?_
 refine s_reg [] [0, 1, 2] (fS [0, 1, 2] [vS s, vI base, vI bitSize]) [] H (by kernel_rfl) trivial fun _ _ H2 hb => ?_
 replace hS := hS.below hb
 clear H hb
 obtain ⟨y3, hy3, hm⟩ := bindE hm
 refine s_reg [(vW [.int .u64 y3, .nilIface])] [0, 1, 2, 8, 9] (fS [0, 1, 2, 8, 9] [vS s, vI base, vI bitSize, .int .u64 y3, .nilIface]) [rB 118 [vS s, vI base, vI bitSize] (vW [.int .u64 y3, .nilIface])] H2 (by kernel_rfl) ⟨((strconv_ParseUint_2_ok m _ _ _ _ hy3).b), trivial⟩ fun _ _ H5 hb => ?_
 replace hS := hS.below hb
 clear H2 hb
 apply w_seq
 refine s_reg [] [0, 1, 2, 8, 9, 18] (fS [0, 1, 2, 8, 9, 18] [vS s, vI base, vI bitSize, .int .u64 y3, .nilIface, vF]) [] H5 (by kernel_rfl) trivial fun _ _ H7 hb => ?_
 replace hS := hS.below hb
 clear H5 hb
 refine w_if H7 rfl (fun hc => by cases hc) (fun _ => ?_)
 apply w_skip
 refine s_reg [] [6, 7] (fS [6, 7] [.int .u64 y3, .nilIface]) [] H7 (by kernel_rfl) trivial fun _ _ H9 hb => ?_
 replace hS := hS.below hb
 clear H7 hb
 apply w_ret
 obtain rfl := someE hm
 exact retR2 H9 rfl rfl rfl ⟨_, rfl, rfl, (hS.sel [] rfl)⟩
theorem strconv_ParseUint_ok  (m : Nat) (s : Str) (base : Int) (bitSize : Int) (r : Int) (hm : strconv_ParseUint m s base bitSize = some r) : Ret Tryz.prog 98 ⟨[vS s, vI base, vI bitSize]⟩ (vW [.int .u64 r, .nilIface]) := retP_of (Tryz.call98 _) (fun w h => strconv_ParseUint_w F0 m   s base bitSize r hm w h)

theorem parseval_hash_w  (M : Av) (m : Nat) (s : Str) (r : TColor × Bool) (hm : parseval_hash m s = some r) (w : World) (hS : S0 M [] w) : Calls Tryz.prog 87 ⟨[vS s]⟩ w (fun e w' => ∃ v, e = .returned v ∧ v = vW [vG (cC r.1), vB r.2] ∧ SH M (fpl []) w [] w') := by
 rw [parseval_hash] at hm
 have hS0 : SH M (fpl []) w [] w := hS
 generalize hX : fpl [] = X at hS0 ⊢
 clear hS hX
 have hS := hS0
 clear hS0
 refine calls_entryP Tryz.func87 rfl Tryz.ntmps87 rfl fun _ H => ?_
 apply w_seq
 apply wl_start
 have hd := hS.hand [] [] rfl rfl
 refine m_stp [2, 0] [(0, [], vS s)] H rfl rfl rfl rfl (o_alloc [vU 0, vU 0, vU 0, vU 0] (z := vG [vU 0, vU 0, vU 0, vU 0]) hd (by kernel_rfl) rfl) (fun _ => rfl) fun _ _ v H3 hq => ?_
 clear H hd
 obtain ⟨b1, rfl, hq⟩ := hq
 replace hS : SH M X w [eB b1 [vU 0, vU 0, vU 0, vU 0]] _ := hS.join [] [] rfl rfl hq
 clear hq
 refine wl_batch 1 2 [] [0, 2] (fS [0, 2] [vS s, vP b1]) [] H3 (by decide) (by kernel_rfl) trivial fun _ _ H5 hb => ?_
 replace hS := hS.below hb
 clear H3 hb
 apply wl_end rfl
 obtain ⟨z6, hz, hm⟩ := bindE hm
 refine w_cut (fun a' w' => Fr 98 (fS [2, 0] [vP b1, vS z6]) a' ∧ SH M X w [eB b1 [vU 0, vU 0, vU 0, vU 0]] w') ?_ ?_
 ·replace hm := hz
  refine s_reg [] [0, 2, 4] (fS [0, 2, 4] [vS s, vP b1, vI (ln s)]) [] H5 (by kernel_rfl) trivial fun _ _ H8 hb => ?_
  replace hS := hS.below hb
  clear H5 hb
  refine s_reg [] [0, 2, 4, 18] (fS [0, 2, 4, 18] [vS s, vP b1, vI (ln s), vB (cond ((ln s) == 3) true ((ln s) == 4))]) [] H8 (by kernel_rfl) trivial fun _ _ H10 hb => ?_
  replace hS := hS.below hb
  clear H8 hb
  refine w_if H10 rfl (fun hc => ?_) (fun hc => ?c35)
  case c35 =>
   replace hm := bF hc hm
   apply w_skip
   obtain rfl := someE hm
   exact ⟨FrG.keep (ks := [2, 0]) H10 (by kernel_rfl), hS⟩
  replace hm := bT hc hm
  refine s_reg [] [0, 2, 4, 5] (fS [0, 2, 4, 5] [vS s, vP b1, vI (ln s), vN]) [] H10 (by kernel_rfl) trivial fun _ _ H12 hb => ?_
  replace hS := hS.below hb
  clear H10 hb
  obtain ⟨z13, hz, hm⟩ := bindE hm
  refine w_cut (fun a' w' => Fr 98 (fS [2, 5] [vP b1, vS z13]) a' ∧ SH M X w [eB b1 [vU 0, vU 0, vU 0, vU 0]] w') ?_ ?_
  ·replace hm := hz
   refine s_reg [] [0, 2, 5, 19, 20] (fS [0, 2, 5, 19, 20] [vS s, vP b1, vN, vI (ln s), vI 0]) [] H12 (by kernel_rfl) trivial fun _ _ H15 hb => ?_
   replace hS := hS.below hb
   clear H12 hb
   apply w_block
   refine w_loop (fun kk a' w' => ∃ (v16 : Str) (v17 : Int), parseval_hash_L1 m s kk v16 v17 = some _ ∧ Fr 98 (fS [0, 2, 19, 5, 20] [vS s, vP b1, vI (ln s), vS v16, vI v17]) a' ∧ SH M X w [eB b1 [vU 0, vU 0, vU 0, vU 0]] w') ⟨_, [], 0, hm, FrG.keep (ks := [0, 2, 19, 5, 20]) H15 (by kernel_rfl), hS⟩ ?_
   clear hm H15 hS
   rintro kk _ _ ⟨v16, v17, hm, H, hS⟩
   cases kk with
   | zero => exact noneE hm
   | succ kk =>
    rw [parseval_hash_L1] at hm
    refine s_reg [] [0, 2, 5, 19, 20, 21] (fS [0, 2, 5, 19, 20, 21] [vS s, vP b1, vS v16, vI (ln s), vI v17, vB (decide (v17 < (ln s)))]) [] H (by kernel_rfl) trivial fun _ _ H19 hb => ?_
    replace hS := hS.below hb
    clear H hb
    apply w_seq
    refine w_if H19 rfl (fun hc => ?_) (fun hc => ?c30)
    case c30 =>
     replace hm := bF hc hm
     apply w_exit rfl
     obtain rfl := someE hm
     exact ⟨FrG.keep (ks := [2, 5]) H19 (by kernel_rfl), hS⟩
    replace hm := bT hc hm
    apply w_skip
    apply w_seq
    apply w_block
    refine s_reg [] [0, 2, 5, 6, 19, 20] (fS [0, 2, 5, 6, 19, 20] [vS s, vP b1, vS v16, vI v17, vI (ln s), vI v17]) [] H19 (by kernel_rfl) trivial fun _ _ H21 hb => ?_
    replace hS := hS.below hb
    clear H19 hb
    obtain ⟨ho22, hm⟩ := chkE hm
    obtain ⟨ho23, hm⟩ := chkE hm
    obtain ⟨x24, hx24, hm⟩ := letE hm
    obtain ⟨ho25, hm⟩ := chkE hm
    refine w_draw [] [0, 2, 5, 19, 20] (fS [0, 2, 5, 19, 20] [vS s, vP b1, vS (v16 ++ x24), vI (ln s), vI v17]) [fun _ => 0 ≤ v17 ∧ v17 ≤ (w64 (v17 + 1)) ∧ (w64 (v17 + 1)) ≤ ln s, fun _ => 0 ≤ v17 ∧ v17 ≤ (w64 (v17 + 1)) ∧ (w64 (v17 + 1)) ≤ ln s, fun _ => ln (sub s v17 (w64 (v17 + 1))) + ln (sub s v17 (w64 (v17 + 1))) ≤ 9223372036854775807, fun _ => ln v16 + ln x24 ≤ 9223372036854775807] H21 (by kernel_rfl) (by kernel_rfl) (by subst hx24; kernel_rfl) ⟨ho22, ho22, ho23, ho25, trivial⟩ fun _ _ H27 hb => ?_
    replace hS := hS.below hb
    clear H21 hb
    refine w_reg [] [0, 2, 5, 19, 20] (fS [0, 2, 5, 19, 20] [vS s, vP b1, vS (v16 ++ x24), vI (ln s), vI (w64 (v17 + 1))]) [] H27 (by kernel_rfl) trivial fun _ _ H29 hb => ?_
    replace hS := hS.below hb
    clear H27 hb
    exact ⟨_, Nat.lt_succ_self _, v16 ++ x24, w64 (v17 + 1), hm, FrG.keep (ks := [0, 2, 19, 5, 20]) H29 (by kernel_rfl), hS⟩
  ·rintro _ _ ⟨H, hS⟩
   refine w_reg [] [0, 2] (fS [0, 2] [vS z13, vP b1]) [] H (by kernel_rfl) trivial fun _ _ H33 hb => ?_
   replace hS := hS.below hb
   clear H hb
   obtain rfl := someE hm
   exact ⟨FrG.keep (ks := [2, 0]) H33 (by kernel_rfl), hS⟩
 ·rintro _ _ ⟨H, hS⟩
  obtain ⟨z36, hz, hm⟩ := bindE hm
  refine w_cut (fun a' w' => Fr 98 (fS [2, 0] [vP b1, vS z36]) a' ∧ SH M X w [eB b1 [vU 0, vU 0, vU 0, vU 0]] w') ?_ ?_
  ·replace hm := hz
   refine s_reg [] [0, 2, 40] (fS [0, 2, 40] [vS z6, vP b1, vB ((ln z6) == 6)]) [] H (by kernel_rfl) trivial fun _ _ H38 hb => ?_
   replace hS := hS.below hb
   clear H hb
   refine w_if H38 rfl (fun hc => ?_) (fun hc => ?c42)
   case c42 =>
    replace hm := bF hc hm
    apply w_skip
    obtain rfl := someE hm
    exact ⟨FrG.keep (ks := [2, 0]) H38 (by kernel_rfl), hS⟩
   replace hm := bT hc hm
   obtain ⟨ho39, hm⟩ := chkE hm
   refine w_reg [] [0, 2] (fS [0, 2] [vS (z6 ++ [102, 102]), vP b1]) [fun _ => ln z6 + ln [102, 102] ≤ 9223372036854775807] H38 (by kernel_rfl) ⟨ho39, trivial⟩ fun _ _ H41 hb => ?_
   replace hS := hS.below hb
   clear H38 hb
   obtain rfl := someE hm
   exact ⟨FrG.keep (ks := [2, 0]) H41 (by kernel_rfl), hS⟩
  ·rintro _ _ ⟨H, hS⟩
   apply w_seq
   refine s_reg [] [0, 2, 45] (fS [0, 2, 45] [vS z36, vP b1, vB ((ln z36) != 8)]) [] H (by kernel_rfl) trivial fun _ _ H44 hb => ?_
   replace hS := hS.below hb
   clear H hb
   refine w_if H44 rfl (fun hc => ?c86) (fun hc => ?_)
   case c86 =>
    replace hm := bT hc hm
    apply w_seq
    apply wl_start
    refine wl_batch 0 1 [] [2, 46] (fS [2, 46] [vP b1, vG [vU 0, vU 0, vU 0, vU 0]]) [] H44 (by decide) (by kernel_rfl) trivial fun _ _ H46 hb => ?_
    replace hS := hS.below hb
    clear H44 hb
    have hd := hS.hand [0] [] rfl rfl
    refine m_stp0 [2] [(2, [], vP b1)] H46 rfl rfl rfl (o_store [vU 0, vU 0, vU 0, vU 0] H46 hd rfl rfl (by kernel_rfl) rfl rfl rfl) rfl fun _ _ H48 hq => ?_
    clear H46 hd
    obtain ⟨_, hq⟩ := hq
    replace hS : SH M X w [eB b1 [vU 0, vU 0, vU 0, vU 0]] _ := hS.join [0] [] rfl rfl hq
    clear hq
    refine wl_batch 2 3 [] [2, 3] (fS [2, 3] [vP b1, vF]) [] H48 (by decide) (by kernel_rfl) trivial fun _ _ H50 hb => ?_
    replace hS := hS.below hb
    clear H48 hb
    apply wl_end rfl
    apply w_ret
    obtain rfl := someE hm
    exact retR2 H50 rfl (oneRes_agg rfl (hS.bk 0 rfl) Tryz.underlying55 rfl (by kernel_rfl)) rfl ⟨_, rfl, rfl, (hS.sel [] rfl)⟩
   replace hm := bF hc hm
   apply w_skip
   obtain ⟨z51, hz, hm_z51⟩ := bindE hm
   refine w_cut (fun a' w' => ∃ s_z51 : Unit, z51 = Sum.inr s_z51 ∧ Fr 98 (fS [0, 2] [vS z36, vP b1]) a' ∧ SH M X w [eB b1 [vU 0, vU 0, vU 0, vU 0]] w') ?_ ?_
   ·replace hm := hz
    refine s_reg [] [0, 2, 48, 49] (fS [0, 2, 48, 49] [vS z36, vP b1, vI (ln z36), vI 0]) [] H44 (by kernel_rfl) trivial fun _ _ H53 hb => ?_
    replace hS := hS.below hb
    clear H44 hb
    apply w_block
    refine w_loop (fun kk a' w' => ∃ (v54 : Int), parseval_hash_L2 m z36 kk v54 = some _ ∧ Fr 98 (fS [0, 2, 48, 49] [vS z36, vP b1, vI (ln z36), vI v54]) a' ∧ SH M X w [eB b1 [vU 0, vU 0, vU 0, vU 0]] w') ⟨_, 0, hm, FrG.keep (ks := [0, 2, 48, 49]) H53 (by kernel_rfl), hS⟩ ?_
    clear hm H53 hS
    rintro kk _ _ ⟨v54, hm, H, hS⟩
    cases kk with
    | zero => exact noneE hm
    | succ kk =>
     rw [parseval_hash_L2] at hm
     refine s_reg [] [0, 2, 48, 49, 50] (fS [0, 2, 48, 49, 50] [vS z36, vP b1, vI (ln z36), vI v54, vB (decide (v54 < (ln z36)))]) [] H (by kernel_rfl) trivial fun _ _ H56 hb => ?_
     replace hS := hS.below hb
     clear H hb
     apply w_seq
     refine w_if H56 rfl (fun hc => ?_) (fun hc => ?c76)
     case c76 =>
      replace hm := bF hc hm
      apply w_exit rfl
      obtain rfl := someE hm
      exact ⟨_, rfl, FrG.keep (ks := [0, 2]) H56 (by kernel_rfl), hS⟩
     replace hm := bT hc hm
     apply w_skip
     apply w_seq
     apply w_block
     refine s_reg [] [0, 2, 7, 48, 49] (fS [0, 2, 7, 48, 49] [vS z36, vP b1, vI v54, vI (ln z36), vI v54]) [] H56 (by kernel_rfl) trivial fun _ _ H58 hb => ?_
     replace hS := hS.below hb
     clear H56 hb
     obtain ⟨ho59, hm⟩ := chkE hm
     refine s_reg [] [0, 2, 8, 48, 49] (fS [0, 2, 8, 48, 49] [vS z36, vP b1, vU (bat z36 v54), vI (ln z36), vI v54]) [fun _ => 0 ≤ v54 ∧ v54 < ln z36] H58 (by kernel_rfl) ⟨ho59, trivial⟩ fun _ _ H61 hb => ?_
     replace hS := hS.below hb
     clear H58 hb
     obtain ⟨x62, hx62, hm⟩ := letE hm
     obtain ⟨x63, hx63, hm⟩ := letE hm
     obtain ⟨x64, hx64, hm⟩ := letE hm
     refine s_reg [] [0, 2, 48, 49, 76] (fS [0, 2, 48, 49, 76] [vS z36, vP b1, vI (ln z36), vI v54, vB x64]) [] H61 (by subst hx62 hx63 hx64; kernel_rfl) trivial fun _ _ H66 hb => ?_
     replace hS := hS.below hb
     clear H61 hb
     refine w_if H66 rfl (fun hc => ?_) (fun hc => ?c75)
     case c75 =>
      replace hm := bF hc hm
      apply w_skip
      refine w_reg [] [0, 2, 48, 49] (fS [0, 2, 48, 49] [vS z36, vP b1, vI (ln z36), vI (w64 (v54 + 1))]) [] H66 (by kernel_rfl) trivial fun _ _ H74 hb => ?_
      replace hS := hS.below hb
      clear H66 hb
      exact ⟨_, Nat.lt_succ_self _, w64 (v54 + 1), hm, FrG.keep (ks := [0, 2, 48, 49]) H74 (by kernel_rfl), hS⟩
     replace hm := bT hc hm
     apply w_seq
     apply wl_start
     refine wl_batch 0 1 [] [2, 77] (fS [2, 77] [vP b1, vG [vU 0, vU 0, vU 0, vU 0]]) [] H66 (by decide) (by kernel_rfl) trivial fun _ _ H68 hb => ?_
     replace hS := hS.below hb
     clear H66 hb
     have hd := hS.hand [0] [] rfl rfl
     refine m_stp0 [2] [(2, [], vP b1)] H68 rfl rfl rfl (o_store [vU 0, vU 0, vU 0, vU 0] H68 hd rfl rfl (by kernel_rfl) rfl rfl rfl) rfl fun _ _ H70 hq => ?_
     clear H68 hd
     obtain ⟨_, hq⟩ := hq
     replace hS : SH M X w [eB b1 [vU 0, vU 0, vU 0, vU 0]] _ := hS.join [0] [] rfl rfl hq
     clear hq
     refine wl_batch 2 3 [] [2, 3] (fS [2, 3] [vP b1, vF]) [] H70 (by decide) (by kernel_rfl) trivial fun _ _ H72 hb => ?_
     replace hS := hS.below hb
     clear H70 hb
     apply wl_end rfl
     apply w_ret
     obtain rfl := someE hm
     have hm := hm_z51
     obtain rfl := someE hm
     exact retR2 H72 rfl (oneRes_agg rfl (hS.bk 0 rfl) Tryz.underlying55 rfl (by kernel_rfl)) rfl ⟨_, rfl, rfl, (hS.sel [] rfl)⟩
   ·rintro _ _ ⟨s_z51, hz, H, hS⟩
    subst hz
    replace hm := sumR hm_z51
    obtain ⟨y78, hy78, hm⟩ := bindE hm
    refine s_reg [(vW [.int .u64 y78, .nilIface])] [2, 9, 10] (fS [2, 9, 10] [vP b1, .int .u64 y78, .nilIface]) [rB 98 [vS z36, vI 16, vI 32] (vW [.int .u64 y78, .nilIface])] H (by kernel_rfl) ⟨((strconv_ParseUint_ok m _ _ _ _ hy78).b), trivial⟩ fun _ _ H80 hb => ?_
    replace hS := hS.below hb
    clear H hb
    refine s_drawS (base := (fS [2, 9, 10] [vP b1, .int .u64 y78, .nilIface])) (L := [eB b1 [vU 0, vU 0, vU 0, vU 0]]) 16 1 (fun yg81 => [.int .u64 y78, .int .u64 (Int.fdiv y78 (2 ^ 24)), vU (wu8 (Int.fdiv y78 (2 ^ 24))), .int .u64 y78, .int .u64 (Int.fdiv y78 (2 ^ 16)), vU (wu8 (Int.fdiv y78 (2 ^ 16))), .int .u64 y78, .int .u64 (Int.fdiv y78 (2 ^ 8)), vU (wu8 (Int.fdiv y78 (2 ^ 8))), .int .u64 y78, vU (wu8 y78), vG [vU (wu8 (Int.fdiv y78 (2 ^ 24))), vU (wu8 (Int.fdiv y78 (2 ^ 16))), vU (wu8 (Int.fdiv y78 (2 ^ 8))), vU (wu8 y78)], .nilIface, vT, undef, vT]) (fun yg81 => [[], [], [], [], [], [], [], [], [], [], [], [], [], [], [eB b1 [vU (wu8 (Int.fdiv y78 (2 ^ 24))), vU (wu8 (Int.fdiv y78 (2 ^ 16))), vU (wu8 (Int.fdiv y78 (2 ^ 8))), vU (wu8 y78)]], []]) [[], [], [], [], [], [], [], [], [], [], [], [], [], [], [16], []] [[], [], [], [], [], [], [], [], [], [], [], [], [], [], [16], []] [[0], [0, 1], [0, 1, 2], [3], [3, 4], [3, 4, 5], [6], [6, 7], [6, 7, 8], [9], [9, 10], [0, 1, 2, 3, 4, 5, 6, 7, 8, 9, 10, 11], [12], [12, 13], [0, 1, 2, 3, 4, 5, 6, 7, 8, 9, 10, 11, 14], [12, 13, 15]] [] (FrG.keep (ks := [2, 9, 10]) H80 (by kernel_rfl)) (fun _ _ h => by cases h) (by kernel_rfl) hS (by kernel_rfl) rfl rfl (by kernel_rfl) (by kernel_rfl) (by kernel_rfl) (gd_none (by kernel_rfl) _ _) ?hloc_yg81 ?hstep_yg81 fun _ _ yg81 H83 hv hS => ?hK_yg81
    case hloc_yg81 => exact ⟨(fun _ _ _ _ => ⟨rfl, rfl⟩), (fun _ _ _ _ => ⟨rfl, rfl⟩), (fun _ _ _ _ => ⟨rfl, rfl⟩), (fun _ _ _ _ => ⟨rfl, rfl⟩), (fun _ _ _ _ => ⟨rfl, rfl⟩), (fun _ _ _ _ => ⟨rfl, rfl⟩), (fun _ _ _ _ => ⟨rfl, rfl⟩), (fun _ _ _ _ => ⟨rfl, rfl⟩), (fun _ _ _ _ => ⟨rfl, rfl⟩), (fun _ _ _ _ => ⟨rfl, rfl⟩), (fun _ _ _ _ => ⟨rfl, rfl⟩), (fun _ _ _ _ => ⟨rfl, rfl⟩), (fun _ _ _ _ => ⟨rfl, rfl⟩), (fun _ _ _ _ => ⟨rfl, rfl⟩), (fun _ _ _ _ => ⟨rfl, rfl⟩), (fun _ _ _ _ => ⟨rfl, rfl⟩), trivial⟩
    case hstep_yg81 =>
     refine ⟨?_, ?_, ?_, ?_, ?_, ?_, ?_, ?_, ?_, ?_, ?_, ?_, ?_, ?_, ?_, ?_, trivial⟩
     ·intro o ho a w yg81 M Hb hv hO hS
      obtain rfl := someE ho
      exact Stp.mono (o_evs [] (.int .u64 y78) none [] Hb rfl (by kernel_rfl) (fun q e => by cases e)) fun _ _ hq => ⟨gL [], fun _ _ => hq.1, (hS.below hq.2.below).sel [] rfl⟩
     ·intro o ho a w yg81 M Hb hv hO hS
      obtain rfl := someE ho
      exact Stp.mono (o_evs [] (.int .u64 (Int.fdiv y78 (2 ^ 24))) (some (fun _ => (0 : Int) ≤ 24)) [] ((Hb).add (hv 0 (by decide) (by decide) 84 rfl)) rfl (by kernel_rfl) (fun q e => by cases e; exact (by show (0 : Int) ≤ 24; decide))) fun _ _ hq => ⟨gL [], fun _ _ => hq.1, (hS.below hq.2.below).sel [] rfl⟩
     ·intro o ho a w yg81 M Hb hv hO hS
      obtain rfl := someE ho
      exact Stp.mono (o_evs [] (vU (wu8 (Int.fdiv y78 (2 ^ 24)))) none [] ((Hb).add (hv 1 (by decide) (by decide) 85 rfl)) rfl (by kernel_rfl) (fun q e => by cases e)) fun _ _ hq => ⟨gL [], fun _ _ => hq.1, (hS.below hq.2.below).sel [] rfl⟩
     ·intro o ho a w yg81 M Hb hv hO hS
      obtain rfl := someE ho
      exact Stp.mono (o_evs [] (.int .u64 y78) none [] Hb rfl (by kernel_rfl) (fun q e => by cases e)) fun _ _ hq => ⟨gL [], fun _ _ => hq.1, (hS.below hq.2.below).sel [] rfl⟩
     ·intro o ho a w yg81 M Hb hv hO hS
      obtain rfl := someE ho
      exact Stp.mono (o_evs [] (.int .u64 (Int.fdiv y78 (2 ^ 16))) (some (fun _ => (0 : Int) ≤ 16)) [] ((Hb).add (hv 3 (by decide) (by decide) 87 rfl)) rfl (by kernel_rfl) (fun q e => by cases e; exact (by show (0 : Int) ≤ 16; decide))) fun _ _ hq => ⟨gL [], fun _ _ => hq.1, (hS.below hq.2.below).sel [] rfl⟩
     ·intro o ho a w yg81 M Hb hv hO hS
      obtain rfl := someE ho
      exact Stp.mono (o_evs [] (vU (wu8 (Int.fdiv y78 (2 ^ 16)))) none [] ((Hb).add (hv 4 (by decide) (by decide) 88 rfl)) rfl (by kernel_rfl) (fun q e => by cases e)) fun _ _ hq => ⟨gL [], fun _ _ => hq.1, (hS.below hq.2.below).sel [] rfl⟩
     ·intro o ho a w yg81 M Hb hv hO hS
      obtain rfl := someE ho
      exact Stp.mono (o_evs [] (.int .u64 y78) none [] Hb rfl (by kernel_rfl) (fun q e => by cases e)) fun _ _ hq => ⟨gL [], fun _ _ => hq.1, (hS.below hq.2.below).sel [] rfl⟩
     ·intro o ho a w yg81 M Hb hv hO hS
      obtain rfl := someE ho
      exact Stp.mono (o_evs [] (.int .u64 (Int.fdiv y78 (2 ^ 8))) (some (fun _ => (0 : Int) ≤ 8)) [] ((Hb).add (hv 6 (by decide) (by decide) 90 rfl)) rfl (by kernel_rfl) (fun q e => by cases e; exact (by show (0 : Int) ≤ 8; decide))) fun _ _ hq => ⟨gL [], fun _ _ => hq.1, (hS.below hq.2.below).sel [] rfl⟩
     ·intro o ho a w yg81 M Hb hv hO hS
      obtain rfl := someE ho
      exact Stp.mono (o_evs [] (vU (wu8 (Int.fdiv y78 (2 ^ 8)))) none [] ((Hb).add (hv 7 (by decide) (by decide) 91 rfl)) rfl (by kernel_rfl) (fun q e => by cases e)) fun _ _ hq => ⟨gL [], fun _ _ => hq.1, (hS.below hq.2.below).sel [] rfl⟩
     ·intro o ho a w yg81 M Hb hv hO hS
      obtain rfl := someE ho
      exact Stp.mono (o_evs [] (.int .u64 y78) none [] Hb rfl (by kernel_rfl) (fun q e => by cases e)) fun _ _ hq => ⟨gL [], fun _ _ => hq.1, (hS.below hq.2.below).sel [] rfl⟩
     ·intro o ho a w yg81 M Hb hv hO hS
      obtain rfl := someE ho
      exact Stp.mono (o_evs [] (vU (wu8 y78)) none [] ((Hb).add (hv 9 (by decide) (by decide) 93 rfl)) rfl (by kernel_rfl) (fun q e => by cases e)) fun _ _ hq => ⟨gL [], fun _ _ => hq.1, (hS.below hq.2.below).sel [] rfl⟩
     ·intro o ho a w yg81 M Hb hv hO hS
      obtain rfl := someE ho
      exact Stp.mono (o_evs [] (vG [vU (wu8 (Int.fdiv y78 (2 ^ 24))), vU (wu8 (Int.fdiv y78 (2 ^ 16))), vU (wu8 (Int.fdiv y78 (2 ^ 8))), vU (wu8 y78)]) none [] (((((Hb).add (hv 2 (by decide) (by decide) 86 rfl)).add (hv 5 (by decide) (by decide) 89 rfl)).add (hv 8 (by decide) (by decide) 92 rfl)).add (hv 10 (by decide) (by decide) 94 rfl)) rfl (by kernel_rfl) (fun q e => by cases e)) fun _ _ hq => ⟨gL [], fun _ _ => hq.1, (hS.below hq.2.below).sel [] rfl⟩
     ·intro o ho a w yg81 M Hb hv hO hS
      obtain rfl := someE ho
      exact Stp.mono (o_evs [] (.nilIface) none [] Hb rfl (by kernel_rfl) (fun q e => by cases e)) fun _ _ hq => ⟨gL [], fun _ _ => hq.1, (hS.below hq.2.below).sel [] rfl⟩
     ·intro o ho a w yg81 M Hb hv hO hS
      obtain rfl := someE ho
      exact Stp.mono (o_evs [] (vT) none [] ((Hb).add (hv 12 (by decide) (by decide) 96 rfl)) rfl (by kernel_rfl) (fun q e => by cases e)) fun _ _ hq => ⟨gL [], fun _ _ => hq.1, (hS.below hq.2.below).sel [] rfl⟩
     ·intro o ho a w yg81 M Hb hv hO hS0
      obtain rfl := someE ho
      have H : Fr 98 ([(95, [], vG [vU (wu8 (Int.fdiv y78 (2 ^ 24))), vU (wu8 (Int.fdiv y78 (2 ^ 16))), vU (wu8 (Int.fdiv y78 (2 ^ 8))), vU (wu8 y78)])] ++ (fS [2, 9, 10] [vP b1, .int .u64 y78, .nilIface])) _ := (Hb).add (hv 11 (by decide) (by decide) 95 rfl)
      obtain ⟨X, hX⟩ : ∃ X, X = fpl [eB b1 [vU 0, vU 0, vU 0, vU 0]] := ⟨_, rfl⟩
      have hS : SH M X w [eB b1 [vU 0, vU 0, vU 0, vU 0]] w := by rw [hX]; exact hS0
      have hd := hS.hand [0] [] rfl rfl
      refine Stp.mono (o_store [vU (wu8 (Int.fdiv y78 (2 ^ 24))), vU (wu8 (Int.fdiv y78 (2 ^ 16))), vU (wu8 (Int.fdiv y78 (2 ^ 8))), vU (wu8 y78)] H hd rfl rfl (by kernel_rfl) rfl rfl rfl) ?_
      rintro v w2 hq
      replace hS : SH M X w [eB b1 [vU (wu8 (Int.fdiv y78 (2 ^ 24))), vU (wu8 (Int.fdiv y78 (2 ^ 16))), vU (wu8 (Int.fdiv y78 (2 ^ 8))), vU (wu8 y78)]] _ := hS.join [0] [] rfl rfl hq
      clear hq
      rw [hX] at hS
      exact ⟨gL [], (fun _ h => by cases h), hS.sel [0] rfl⟩
     ·intro o ho a w yg81 M Hb hv hO hS
      obtain rfl := someE ho
      exact Stp.mono (o_evs [] (vT) none [] ((Hb).add (hv 13 (by decide) (by decide) 97 rfl)) rfl (by kernel_rfl) (fun q e => by cases e)) fun _ _ hq => ⟨gL [], fun _ _ => hq.1, (hS.below hq.2.below).sel [] rfl⟩
    have H84 : Fr 98 (fS [3, 2] [vT, vP b1]) _ := (FrG.add (FrG.keep (ks := [2]) H83 (by kernel_rfl)) (hv 15 3 rfl))
    replace hS : SH M X w [eB b1 [vU (wu8 (Int.fdiv y78 (2 ^ 24))), vU (wu8 (Int.fdiv y78 (2 ^ 16))), vU (wu8 (Int.fdiv y78 (2 ^ 8))), vU (wu8 y78)]] _ := hS
    clear hv H83
    apply w_ret
    obtain rfl := someE hm
    exact retR2 H84 rfl (oneRes_agg rfl (hS.bk 0 rfl) Tryz.underlying55 rfl (by kernel_rfl)) rfl ⟨_, rfl, rfl, (hS.sel [] rfl)⟩
theorem parseval_hash_ok  (m : Nat) (s : Str) (r : TColor × Bool) (hm : parseval_hash m s = some r) : Ret Tryz.prog 87 ⟨[vS s]⟩ (vW [vG (cC r.1), vB r.2]) := retP_of (Tryz.call87 _) (fun w h => parseval_hash_w F0 m   s r hm w h)

theorem parseval_rgb_1_w {b_u0 : Nat} {b_u1 : Nat} {g_u1 : Gh} (M : Av) (t_ : TToken) (u0 : Str) (u1 : List Int) (r : Str × (List Int)) (hm : parseval_rgb_1 t_ u0 u1 = some r) (w : World) (hS : S0 M [eB b_u0 [vS u0], eB b_u1 [vL g_u1 u1], eO 2 (tI .i64) u1 g_u1] w) : Calls Tryz.prog 99 ⟨[vG (cT t_), vP b_u0, vP b_u1]⟩ w (fun e w' => ∃ v, e = .returned v ∧ ∃ (g901 : Gh), v = vW [] ∧ SH M (fpl [eB b_u0 [vS u0], eB b_u1 [vL g_u1 u1], eO 2 (tI .i64) u1 g_u1]) w [eB b_u0 [vS r.1], eB b_u1 [vL g901 r.2], eO 2 (tI .i64) r.2 g901] w') := by
 rw [parseval_rgb_1] at hm
 have hS0 : SH M (fpl [eB b_u0 [vS u0], eB b_u1 [vL g_u1 u1], eO 2 (tI .i64) u1 g_u1]) w [eB b_u0 [vS u0], eB b_u1 [vL g_u1 u1], eO 2 (tI .i64) u1 g_u1] w := hS
 generalize hX : fpl [eB b_u0 [vS u0], eB b_u1 [vL g_u1 u1], eO 2 (tI .i64) u1 g_u1] = X at hS0 ⊢
 clear hS hX
 have hS := hS0
 clear hS0
 refine calls_entryP Tryz.func99 rfl Tryz.ntmps99 rfl fun _ H => ?_
 apply w_seq
 apply wl_start
 have hd := hS.hand [] [0, 1, 2] rfl rfl
 refine m_stp [3, 1, 2] (fS [1, 2] [vP b_u0, vP b_u1]) H rfl rfl rfl rfl (o_box (cT t_) H hd rfl rfl) (fun _ => rfl) fun _ _ v H3 hq => ?_
 clear H hd
 obtain ⟨b1, rfl, hq⟩ := hq
 replace hS : SH M X w [eB b1 (cT t_), eB b_u0 [vS u0], eB b_u1 [vL g_u1 u1], eO 2 (tI .i64) u1 g_u1] _ := hS.join [] [0, 1, 2] rfl rfl hq
 clear hq
 apply wl_end rfl
 apply w_block
 refine s_reg [(vU t_.Kind)] [1, 2, 3, 6] (fS [1, 2, 3, 6] [vP b_u0, vP b_u1, vP b1, vB (t_.Kind == 13)]) [rA b1 0 (vU t_.Kind)] H3 (by kernel_rfl) ⟨((hS.bk 0 rfl).at1 rfl), trivial⟩ fun _ _ H5 hb => ?_
 replace hS := hS.below hb
 clear H3 hb
 refine w_if H5 rfl (fun hc => ?c49) (fun hc => ?_)
 case c49 =>
  replace hm := bT hc hm
  apply w_skip
  obtain rfl := someE hm
  try dsimp only
  exact retR0 H5 rfl ⟨_, rfl, g_u1, rfl, (hS.sel [1, 2, 3] rfl)⟩
 replace hm := bF hc hm
 refine s_reg [(vU t_.Kind)] [1, 2, 3, 10] (fS [1, 2, 3, 10] [vP b_u0, vP b_u1, vP b1, vB (t_.Kind == 10)]) [rA b1 0 (vU t_.Kind)] H5 (by kernel_rfl) ⟨((hS.bk 0 rfl).at1 rfl), trivial⟩ fun _ _ H7 hb => ?_
 replace hS := hS.below hb
 clear H5 hb
 refine w_if H7 rfl (fun hc => ?c48) (fun hc => ?_)
 case c48 =>
  replace hm := bT hc hm
  apply w_seq
  apply wl_start
  obtain ⟨ho8, hm⟩ := chkE hm
  refine wl_batch 0 2 [(vS u0)] [1, 2, 3, 15] (fS [1, 2, 3, 15] [vP b_u0, vP b_u1, vP b1, vS (u0 ++ [110])]) [rA b_u0 0 (vS u0), fun _ => ln u0 + ln [110] ≤ 9223372036854775807] H7 (by decide) (by kernel_rfl) ⟨((hS.bk 1 rfl).at1 rfl), ho8, trivial⟩ fun _ _ H10 hb => ?_
  replace hS := hS.below hb
  clear H7 hb
  have hd := hS.hand [1] [0, 2, 3] rfl rfl
  refine m_stp0 [2, 3] (fS [2, 3] [vP b_u1, vP b1]) H10 rfl rfl rfl (o_store [vS (u0 ++ [110])] H10 hd rfl rfl (by kernel_rfl) rfl rfl rfl) rfl fun _ _ H12 hq => ?_
  clear H10 hd
  obtain ⟨_, hq⟩ := hq
  replace hS : SH M X w [eB b_u0 [vS (u0 ++ [110])], eB b1 (cT t_), eB b_u1 [vL g_u1 u1], eO 2 (tI .i64) u1 g_u1] _ := hS.join [1] [0, 2, 3] rfl rfl hq
  clear hq
  apply wl_end rfl
  apply wl_start
  refine wl_batch 0 3 [(vL g_u1 u1), (vI t_.Num)] [2, 16, 18] (fS [2, 16, 18] [vP b_u1, vL g_u1 u1, vI t_.Num]) [rA b_u1 0 (vL g_u1 u1), rA b1 2 (vI t_.Num)] H12 (by decide) (by kernel_rfl) ⟨((hS.bk 2 rfl).at1 rfl), ((hS.bk 1 rfl).at1 rfl), trivial⟩ fun _ _ H14 hb => ?_
  replace hS := hS.below hb
  clear H12 hb
  have hd := hS.hand [] [0, 1, 2, 3] rfl rfl
  refine m_stp [19, 2, 16] (fS [2, 16] [vP b_u1, vL g_u1 u1]) H14 rfl rfl rfl rfl (o_lit (T := (tI .i64)) (E := 2) (zv := vI 0) [vI t_.Num] ([t_.Num] : List Int) [gL []] _ H14 hd rfl (by kernel_rfl) (by kernel_rfl) (by kernel_rfl) (by kernel_rfl) (by kernel_rfl) (by kernel_rfl) (by kernel_rfl) rfl (InnL.cons trivial InnL.nil)) (fun _ => rfl) fun _ _ v H18 hq => ?_
  clear H14 hd
  obtain ⟨g15, rfl, hq⟩ := hq
  replace hS : SH M X w [eO 2 (tI .i64) ([t_.Num] : List Int) g15, eB b_u0 [vS (u0 ++ [110])], eB b1 (cT t_), eB b_u1 [vL g_u1 u1], eO 2 (tI .i64) u1 g_u1] _ := hS.join [] [0, 1, 2, 3] rfl rfl hq
  clear hq
  obtain ⟨ho19, hm⟩ := chkE hm
  obtain ⟨q20, hq20, hm⟩ := letE hm
  have hd := hS.hand [4, 0] [1, 2, 3] rfl rfl
  refine m_stp [20, 2] [(2, [], vP b_u1)] H18 rfl rfl rfl rfl (o_app2 (T := (tI .i64)) (zv := vI 0) (g1 := g_u1) (g2 := g15) (l1 := u1) (l2 := ([t_.Num] : List Int)) q20 hq20.symm H18 hd rfl rfl rfl rfl rfl rfl rfl (by kernel_rfl) (by kernel_rfl) rfl rfl ho19) (fun _ => rfl) fun _ _ v H22 hq => ?_
  clear H18 hd
  obtain ⟨g23, rfl, hq⟩ := hq
  replace hS : SH M X w [eO 2 (tI .i64) q20 g23, eO 2 (tI .i64) ([t_.Num] : List Int) g15, eB b_u0 [vS (u0 ++ [110])], eB b1 (cT t_), eB b_u1 [vL g_u1 u1]] _ := hS.join [4, 0] [1, 2, 3] rfl rfl hq
  clear hq
  have hd := hS.hand [4] [0, 1, 2, 3] rfl rfl
  refine m_stp0 [] [] H22 rfl rfl rfl (o_store [vL g23 q20] H22 hd rfl rfl (by kernel_rfl) rfl rfl rfl) rfl fun _ _ H25 hq => ?_
  clear H22 hd
  obtain ⟨_, hq⟩ := hq
  replace hS : SH M X w [eB b_u1 [vL g23 q20], eO 2 (tI .i64) q20 g23, eO 2 (tI .i64) ([t_.Num] : List Int) g15, eB b_u0 [vS (u0 ++ [110])], eB b1 (cT t_)] _ := hS.join [4] [0, 1, 2, 3] rfl rfl hq
  clear hq
  apply wl_end rfl
  replace hS : SH M X w [eB b_u1 [vL g23 q20], eO 2 (tI .i64) q20 g23, eB b_u0 [vS (u0 ++ [110])]] _ := hS.sel [0, 1, 3] rfl
  obtain rfl := someE hm
  try dsimp only
  exact retR0 H25 rfl ⟨_, rfl, g23, rfl, (hS.sel [2, 0, 1] rfl)⟩
 replace hm := bF hc hm
 refine s_reg [(vU t_.Kind)] [1, 3, 21] (fS [1, 3, 21] [vP b_u0, vP b1, vB (t_.Kind == 18)]) [rA b1 0 (vU t_.Kind)] H7 (by kernel_rfl) ⟨((hS.bk 0 rfl).at1 rfl), trivial⟩ fun _ _ H27 hb => ?_
 replace hS := hS.below hb
 clear H7 hb
 refine w_if H27 rfl (fun hc => ?c47) (fun hc => ?_)
 case c47 =>
  replace hm := bT hc hm
  apply wl_start
  obtain ⟨ho28, hm⟩ := chkE hm
  refine wl_batch 0 2 [(vS u0)] [1, 26] (fS [1, 26] [vP b_u0, vS (u0 ++ [44])]) [rA b_u0 0 (vS u0), fun _ => ln u0 + ln [44] ≤ 9223372036854775807] H27 (by decide) (by kernel_rfl) ⟨((hS.bk 1 rfl).at1 rfl), ho28, trivial⟩ fun _ _ H30 hb => ?_
  replace hS := hS.below hb
  clear H27 hb
  have hd := hS.hand [1] [0, 2, 3] rfl rfl
  refine m_stp0 [] [] H30 rfl rfl rfl (o_store [vS (u0 ++ [44])] H30 hd rfl rfl (by kernel_rfl) rfl rfl rfl) rfl fun _ _ H32 hq => ?_
  clear H30 hd
  obtain ⟨_, hq⟩ := hq
  replace hS : SH M X w [eB b_u0 [vS (u0 ++ [44])], eB b1 (cT t_), eB b_u1 [vL g_u1 u1], eO 2 (tI .i64) u1 g_u1] _ := hS.join [1] [0, 2, 3] rfl rfl hq
  clear hq
  apply wl_end rfl
  replace hS : SH M X w [eB b_u0 [vS (u0 ++ [44])], eB b_u1 [vL g_u1 u1], eO 2 (tI .i64) u1 g_u1] _ := hS.sel [0, 2, 3] rfl
  obtain rfl := someE hm
  try dsimp only
  exact retR0 H32 rfl ⟨_, rfl, g_u1, rfl, (hS.sel [0, 1, 2] rfl)⟩
 replace hm := bF hc hm
 obtain ⟨x33, hx33, hm⟩ := letE hm
 refine s_reg [(vU t_.Kind), (vS t_.Text)] [1, 27] (fS [1, 27] [vP b_u0, vB x33]) [rA b1 0 (vU t_.Kind), fun wz => ((t_.Kind == 9) = true ∧ True → V.at1 ⟨b1, 1, none⟩ (vS t_.Text) wz)] H27 (by subst hx33; kernel_rfl) ⟨((hS.bk 0 rfl).at1 rfl), fun hg => (hS.bk 0 rfl).at1 rfl, trivial⟩ fun _ _ H35 hb => ?_
 replace hS := hS.below hb
 clear H27 hb
 replace hS : SH M X w [eB b_u0 [vS u0], eB b_u1 [vL g_u1 u1], eO 2 (tI .i64) u1 g_u1] _ := hS.sel [1, 2, 3] rfl
 refine w_if H35 rfl (fun hc => ?_) (fun hc => ?c46)
 case c46 =>
  replace hm := bF hc hm
  apply wl_start
  obtain ⟨ho41, hm⟩ := chkE hm
  refine wl_batch 0 2 [(vS u0)] [1, 5] (fS [1, 5] [vP b_u0, vS (u0 ++ [120])]) [rA b_u0 0 (vS u0), fun _ => ln u0 + ln [120] ≤ 9223372036854775807] H35 (by decide) (by kernel_rfl) ⟨((hS.bk 0 rfl).at1 rfl), ho41, trivial⟩ fun _ _ H43 hb => ?_
  replace hS := hS.below hb
  clear H35 hb
  have hd := hS.hand [0] [1, 2] rfl rfl
  refine m_stp0 [] [] H43 rfl rfl rfl (o_store [vS (u0 ++ [120])] H43 hd rfl rfl (by kernel_rfl) rfl rfl rfl) rfl fun _ _ H45 hq => ?_
  clear H43 hd
  obtain ⟨_, hq⟩ := hq
  replace hS : SH M X w [eB b_u0 [vS (u0 ++ [120])], eB b_u1 [vL g_u1 u1], eO 2 (tI .i64) u1 g_u1] _ := hS.join [0] [1, 2] rfl rfl hq
  clear hq
  apply wl_end rfl
  obtain rfl := someE hm
  try dsimp only
  exact retR0 H45 rfl ⟨_, rfl, g_u1, rfl, (hS.sel [0, 1, 2] rfl)⟩
 replace hm := bT hc hm
 apply wl_start
 obtain ⟨ho36, hm⟩ := chkE hm
 refine wl_batch 0 2 [(vS u0)] [1, 37] (fS [1, 37] [vP b_u0, vS (u0 ++ [47])]) [rA b_u0 0 (vS u0), fun _ => ln u0 + ln [47] ≤ 9223372036854775807] H35 (by decide) (by kernel_rfl) ⟨((hS.bk 0 rfl).at1 rfl), ho36, trivial⟩ fun _ _ H38 hb => ?_
 replace hS := hS.below hb
 clear H35 hb
 have hd := hS.hand [0] [1, 2] rfl rfl
 refine m_stp0 [] [] H38 rfl rfl rfl (o_store [vS (u0 ++ [47])] H38 hd rfl rfl (by kernel_rfl) rfl rfl rfl) rfl fun _ _ H40 hq => ?_
 clear H38 hd
 obtain ⟨_, hq⟩ := hq
 replace hS : SH M X w [eB b_u0 [vS (u0 ++ [47])], eB b_u1 [vL g_u1 u1], eO 2 (tI .i64) u1 g_u1] _ := hS.join [0] [1, 2] rfl rfl hq
 clear hq
 apply wl_end rfl
 obtain rfl := someE hm
 try dsimp only
 exact retR0 H40 rfl ⟨_, rfl, g_u1, rfl, (hS.sel [0, 1, 2] rfl)⟩
theorem parseval_rgb_1_ok {b_u0 : Nat} {b_u1 : Nat} {g_u1 : Gh} (t_ : TToken) (u0 : Str) (u1 : List Int) (r : Str × (List Int)) (hm : parseval_rgb_1 t_ u0 u1 = some r) (M : Av) (w : World) (hS : S0 M [eB b_u0 [vS u0], eB b_u1 [vL g_u1 u1], eO 2 (tI .i64) u1 g_u1] w) : DoesX Tryz.prog 99 ⟨[vG (cT t_), vP b_u0, vP b_u1]⟩ w (fun v w' => ∃ (g901 : Gh), v = vW [] ∧ SH M (fpl [eB b_u0 [vS u0], eB b_u1 [vL g_u1 u1], eO 2 (tI .i64) u1 g_u1]) w [eB b_u0 [vS r.1], eB b_u1 [vL g901 r.2], eO 2 (tI .i64) r.2 g901] w') := ⟨Tryz.call99 _, parseval_rgb_1_w M   t_ u0 u1 r hm w hS⟩

theorem parseval_rgb_2_w {b_u0 : Nat} {g_u0 : Gh} (M : Av) (i : Int) (u0 : List Int) (r : Int) (hm : parseval_rgb_2 i u0 = some r) (w : World) (hS : S0 M [Ent.ro b_u0 [vL g_u0 u0], eI (tI .i64) u0 g_u0] w) : Calls Tryz.prog 100 ⟨[vI i, vP b_u0]⟩ w (fun e w' => ∃ v, e = .returned v ∧ v = vU r ∧ SH M (fpl [Ent.ro b_u0 [vL g_u0 u0], eI (tI .i64) u0 g_u0]) w [] w') := by
 rw [parseval_rgb_2] at hm
 have hS0 : SH M (fpl [Ent.ro b_u0 [vL g_u0 u0], eI (tI .i64) u0 g_u0]) w [Ent.ro b_u0 [vL g_u0 u0], eI (tI .i64) u0 g_u0] w := hS
 generalize hX : fpl [Ent.ro b_u0 [vL g_u0 u0], eI (tI .i64) u0 g_u0] = X at hS0 ⊢
 clear hS hX
 have hS := hS0
 clear hS0
 refine calls_entryP Tryz.func100 rfl Tryz.ntmps100 rfl fun _ H => ?_
 refine s_reg [] [0, 1] (fS [0, 1] [vI i, vP b_u0]) [] H (by kernel_rfl) trivial fun _ _ H2 hb => ?_
 replace hS := hS.below hb
 clear H hb
 obtain ⟨ho3, hm⟩ := chkE hm
 obtain ⟨x4, hx4, hm⟩ := letE hm
 refine s_reg [(vL g_u0 u0), (vI (gi u0 i))] [3] [(3, [], vU (wu8 (if 0 < x4 then x4 else 0)))] [rA b_u0 0 (vL g_u0 u0), fun _ => oka g_u0.a ∧ 0 ≤ i ∧ i < ln u0, fun wz => V.at1 ⟨ab g_u0.a, ao g_u0.a + (i).toNat * 1, none⟩ (vI (gi u0 i)) wz, fun _ => (1000 : Int) ≠ 0] H2 (by subst hx4; kernel_rfl) ⟨((hS.ro 0 rfl).at1 rfl), ((hS.im 1 rfl).oki ho3), ((hS.im 1 rfl).at1 ho3 0 rfl), (by show (1000 : Int) ≠ 0; decide), trivial⟩ fun _ _ H6 hb => ?_
 replace hS := hS.below hb
 clear H2 hb
 replace hS : SH M X w [] _ := hS.sel [] rfl
 apply w_ret
 obtain rfl := someE hm
 exact retR1 H6 rfl rfl ⟨_, rfl, rfl, (hS.sel [] rfl)⟩
theorem parseval_rgb_2_ok {b_u0 : Nat} {g_u0 : Gh} (i : Int) (u0 : List Int) (r : Int) (hm : parseval_rgb_2 i u0 = some r) (w : World) (hL : S0 F0 [Ent.ro b_u0 [vL g_u0 u0], eI (tI .i64) u0 g_u0] w ∧ fpl [Ent.ro b_u0 [vL g_u0 u0], eI (tI .i64) u0 g_u0] = []) : RetB Tryz.prog 100 ⟨[vI i, vP b_u0]⟩ (vU r) w := retB_of hL (Tryz.call100 _) (fun w' h => parseval_rgb_2_w F0   i u0 r hm w' h)

theorem parseval_rgb_w {g_l_ : Gh} (M : Av) (m : Nat) (l_ : List TValue) (r : TColor × Bool) (hm : parseval_rgb m l_ = some r) (w : World) (hS : S0 M [eI tyValue l_ g_l_] w) : Calls Tryz.prog 88 ⟨[vL g_l_ l_]⟩ w (fun e w' => ∃ v, e = .returned v ∧ v = vW [vG (cC r.1), vB r.2] ∧ SH M (fpl [eI tyValue l_ g_l_]) w [] w') := by
 rw [parseval_rgb] at hm
 have hS0 : SH M (fpl [eI tyValue l_ g_l_]) w [eI tyValue l_ g_l_] w := hS
 generalize hX : fpl [eI tyValue l_ g_l_] = X at hS0 ⊢
 clear hS hX
 have hS := hS0
 clear hS0
 refine calls_entryP Tryz.func88 rfl Tryz.ntmps88 rfl fun _ H => ?_
 apply w_seq
 apply wl_start
 have hd := hS.hand [] [0] rfl rfl
 refine m_stp [2, 0] [(0, [], vL g_l_ l_)] H rfl rfl rfl rfl (o_alloc [vU 0, vU 0, vU 0, vU 0] (z := vG [vU 0, vU 0, vU 0, vU 0]) hd (by kernel_rfl) rfl) (fun _ => rfl) fun _ _ v H3 hq => ?_
 clear H hd
 obtain ⟨b1, rfl, hq⟩ := hq
 replace hS : SH M X w [eB b1 [vU 0, vU 0, vU 0, vU 0], eI tyValue l_ g_l_] _ := hS.join [] [0] rfl rfl hq
 clear hq
 refine wl_batch 1 2 [] [0, 2] (fS [0, 2] [vL g_l_ l_, vP b1]) [] H3 (by decide) (by kernel_rfl) trivial fun _ _ H5 hb => ?_
 replace hS := hS.below hb
 clear H3 hb
 apply wl_end rfl
 apply w_seq
 apply wl_start
 have hd := hS.hand [] [0, 1] rfl rfl
 refine m_stp [4, 0, 2] (fS [0, 2] [vL g_l_ l_, vP b1]) H5 rfl rfl rfl rfl (o_alloc [vN] (z := vN) hd (by kernel_rfl) rfl) (fun _ => rfl) fun _ _ v H8 hq => ?_
 clear H5 hd
 obtain ⟨b6, rfl, hq⟩ := hq
 replace hS : SH M X w [eB b6 [vN], eB b1 [vU 0, vU 0, vU 0, vU 0], eI tyValue l_ g_l_] _ := hS.join [] [0, 1] rfl rfl hq
 clear hq
 have hd := hS.hand [0] [1, 2] rfl rfl
 refine m_stp0 [0, 2, 4] (fS [0, 2, 4] [vL g_l_ l_, vP b1, vP b6]) H8 rfl rfl rfl (o_store [vN] H8 hd rfl rfl (by kernel_rfl) rfl rfl rfl) rfl fun _ _ H10 hq => ?_
 clear H8 hd
 obtain ⟨_, hq⟩ := hq
 replace hS : SH M X w [eB b6 [vN], eB b1 [vU 0, vU 0, vU 0, vU 0], eI tyValue l_ g_l_] _ := hS.join [0] [1, 2] rfl rfl hq
 clear hq
 apply wl_end rfl
 apply w_seq
 apply wl_start
 have hd := hS.hand [] [0, 1, 2] rfl rfl
 refine m_stp [5, 0, 2, 4] (fS [0, 2, 4] [vL g_l_ l_, vP b1, vP b6]) H10 rfl rfl rfl rfl (o_alloc [vO] (z := vO) hd (by kernel_rfl) rfl) (fun _ => rfl) fun _ _ v H13 hq => ?_
 clear H10 hd
 obtain ⟨b11, rfl, hq⟩ := hq
 replace hS : SH M X w [eB b11 [vO], eB b6 [vN], eB b1 [vU 0, vU 0, vU 0, vU 0], eI tyValue l_ g_l_] _ := hS.join [] [0, 1, 2] rfl rfl hq
 clear hq
 apply wl_end rfl
 refine s_reg [] [0, 2, 4, 5, 6] (fS [0, 2, 4, 5, 6] [vL g_l_ l_, vP b1, vP b6, vP b11, .func (.func 99) ⟨[]⟩ ⟨[vP b6, vP b11]⟩]) [] H13 (by kernel_rfl) trivial fun _ _ H15 hb => ?_
 replace hS := hS.below hb
 clear H13 hb
 obtain ⟨z16, hz, hm⟩ := bindE hm
 refine w_cut (fun a' w' => ∃ (g45 : Gh), Fr 49 (fS [2, 4, 5] [vP b1, vP b6, vP b11]) a' ∧ SH M X w [eO 2 (tI .i64) z16.2 g45, eB b11 [vL g45 z16.2], eB b6 [vS z16.1], eB b1 [vU 0, vU 0, vU 0, vU 0], eI tyValue l_ g_l_] w') ?_ ?_
 ·replace hm := hz
  refine s_reg [] [2, 4, 5, 6, 11, 12, 13] (fS [2, 4, 5, 6, 11, 12, 13] [vP b1, vP b6, vP b11, .func (.func 99) ⟨[]⟩ ⟨[vP b6, vP b11]⟩, vL g_l_ l_, vI (ln l_), vI 0]) [] H15 (by kernel_rfl) trivial fun _ _ H18 hb => ?_
  replace hS := hS.below hb
  clear H15 hb
  apply w_block
  replace hS : SH M X w [eO 2 (tI .i64) ([] : List Int) (.nil), eB b11 [vO], eB b6 [vN], eB b1 [vU 0, vU 0, vU 0, vU 0], eI tyValue l_ g_l_] _ := hS.addNil 2 (tI .i64)
  refine w_loop (fun kk a' w' => ∃ (v20 : Int) (v21 : List Int) (v23 : Str) (g22 : Gh), parseval_rgb_L1 m l_ kk v20 v21 v23 = some _ ∧ Fr 49 (fS [2, 4, 5, 6, 11, 12, 13] [vP b1, vP b6, vP b11, .func (.func 99) ⟨[]⟩ ⟨[vP b6, vP b11]⟩, vL g_l_ l_, vI (ln l_), vI v20]) a' ∧ SH M X w [eO 2 (tI .i64) v21 g22, eB b11 [vL g22 v21], eB b6 [vS v23], eB b1 [vU 0, vU 0, vU 0, vU 0], eI tyValue l_ g_l_] w') ⟨_, 0, ([] : List Int), [], Gh.nil, hm, FrG.keep (ks := [2, 4, 5, 6, 11, 12, 13]) H18 (by kernel_rfl), hS⟩ ?_
  clear hm H18 hS
  rintro kk _ _ ⟨v20, v21, v23, g22, hm, H, hS⟩
  cases kk with
  | zero => exact noneE hm
  | succ kk =>
   rw [parseval_rgb_L1] at hm
   refine s_reg [] [2, 4, 5, 6, 11, 12, 13, 14] (fS [2, 4, 5, 6, 11, 12, 13, 14] [vP b1, vP b6, vP b11, .func (.func 99) ⟨[]⟩ ⟨[vP b6, vP b11]⟩, vL g_l_ l_, vI (ln l_), vI v20, vB (decide (v20 < (ln l_)))]) [] H (by kernel_rfl) trivial fun _ _ H25 hb => ?_
   replace hS := hS.below hb
   clear H hb
   apply w_seq
   refine w_if H25 rfl (fun hc => ?_) (fun hc => ?c43)
   case c43 =>
    replace hm := bF hc hm
    apply w_exit rfl
    obtain rfl := someE hm
    exact ⟨g22, FrG.keep (ks := [2, 4, 5]) H25 (by kernel_rfl), hS⟩
   replace hm := bT hc hm
   apply w_skip
   apply w_seq
   apply w_block
   apply w_seq
   apply wl_start
   obtain ⟨ho26, hm⟩ := chkE hm
   refine wl_batch 0 2 [(vG [vU ((gi l_ v20).Token.Kind), vS (gi l_ v20).Token.Text, vI ((gi l_ v20).Token.Num), vS (gi l_ v20).Token.Unit, vB ((gi l_ v20).Token.Flag), .slice (g_l_.s (v20).toNat 0).a (((gi l_ v20).List_).length) (g_l_.s (v20).toNat 0).c])] [2, 4, 5, 6, 11, 12, 13, 16] (fS [2, 4, 5, 6, 11, 12, 13, 16] [vP b1, vP b6, vP b11, .func (.func 99) ⟨[]⟩ ⟨[vP b6, vP b11]⟩, vL g_l_ l_, vI (ln l_), vI v20, vG [vU ((gi l_ v20).Token.Kind), vS (gi l_ v20).Token.Text, vI ((gi l_ v20).Token.Num), vS (gi l_ v20).Token.Unit, vB ((gi l_ v20).Token.Flag), .slice (g_l_.s (v20).toNat 0).a (((gi l_ v20).List_).length) (g_l_.s (v20).toNat 0).c]]) [fun _ => oka g_l_.a ∧ 0 ≤ v20 ∧ v20 < ln l_, fun wz => V.atN (ab g_l_.a) (ao g_l_.a + (v20).toNat * 6) [vU ((gi l_ v20).Token.Kind), vS (gi l_ v20).Token.Text, vI ((gi l_ v20).Token.Num), vS (gi l_ v20).Token.Unit, vB ((gi l_ v20).Token.Flag), .slice (g_l_.s (v20).toNat 0).a (((gi l_ v20).List_).length) (g_l_.s (v20).toNat 0).c] 0 wz] H25 (by decide) (by kernel_rfl) ⟨((hS.im 4 rfl).oki ho26), ((hS.im 4 rfl).atA ho26 0 rfl), trivial⟩ fun _ _ H28 hb => ?_
   replace hS := hS.below hb
   clear H25 hb
   have hd := hS.hand [] [0, 1, 2, 3, 4] rfl rfl
   refine m_stp [8, 2, 4, 5, 6, 11, 12, 13, 16] (fS [2, 4, 5, 6, 11, 12, 13, 16] [vP b1, vP b6, vP b11, .func (.func 99) ⟨[]⟩ ⟨[vP b6, vP b11]⟩, vL g_l_ l_, vI (ln l_), vI v20, vG [vU ((gi l_ v20).Token.Kind), vS (gi l_ v20).Token.Text, vI ((gi l_ v20).Token.Num), vS (gi l_ v20).Token.Unit, vB ((gi l_ v20).Token.Flag), .slice (g_l_.s (v20).toNat 0).a (((gi l_ v20).List_).length) (g_l_.s (v20).toNat 0).c]]) H28 rfl rfl rfl rfl (o_alloc [vU 0, vN, vI 0, vN, vF, vO] (z := vG [vU 0, vN, vI 0, vN, vF, vO]) hd (by kernel_rfl) rfl) (fun _ => rfl) fun _ _ v H31 hq => ?_
   clear H28 hd
   obtain ⟨b29, rfl, hq⟩ := hq
   replace hS : SH M X w [eB b29 [vU 0, vN, vI 0, vN, vF, vO], eO 2 (tI .i64) v21 g22, eB b11 [vL g22 v21], eB b6 [vS v23], eB b1 [vU 0, vU 0, vU 0, vU 0], eI tyValue l_ g_l_] _ := hS.join [] [0, 1, 2, 3, 4] rfl rfl hq
   clear hq
   have hd := hS.hand [0] [1, 2, 3, 4, 5] rfl rfl
   refine m_stp0 [2, 4, 5, 6, 8, 11, 12, 13] (fS [2, 4, 5, 6, 8, 11, 12, 13] [vP b1, vP b6, vP b11, .func (.func 99) ⟨[]⟩ ⟨[vP b6, vP b11]⟩, vP b29, vL g_l_ l_, vI (ln l_), vI v20]) H31 rfl rfl rfl (o_store [vU ((gi l_ v20).Token.Kind), vS (gi l_ v20).Token.Text, vI ((gi l_ v20).Token.Num), vS (gi l_ v20).Token.Unit, vB ((gi l_ v20).Token.Flag), .slice (g_l_.s (v20).toNat 0).a (((gi l_ v20).List_).length) (g_l_.s (v20).toNat 0).c] H31 hd rfl rfl (by kernel_rfl) rfl rfl rfl) rfl fun _ _ H33 hq => ?_
   clear H31 hd
   obtain ⟨_, hq⟩ := hq
   replace hS : SH M X w [eB b29 [vU ((gi l_ v20).Token.Kind), vS (gi l_ v20).Token.Text, vI ((gi l_ v20).Token.Num), vS (gi l_ v20).Token.Unit, vB ((gi l_ v20).Token.Flag), .slice (g_l_.s (v20).toNat 0).a (((gi l_ v20).List_).length) (g_l_.s (v20).toNat 0).c], eO 2 (tI .i64) v21 g22, eB b11 [vL g22 v21], eB b6 [vS v23], eB b1 [vU 0, vU 0, vU 0, vU 0], eI tyValue l_ g_l_] _ := hS.join [0] [1, 2, 3, 4, 5] rfl rfl hq
   clear hq
   apply wl_end rfl
   apply wl_start
   refine wl_batch 0 3 [(vG [vU ((gi l_ v20).Token.Kind), vS (gi l_ v20).Token.Text, vI ((gi l_ v20).Token.Num), vS (gi l_ v20).Token.Unit, vB ((gi l_ v20).Token.Flag)])] [2, 4, 5, 6, 11, 12, 13, 17, 19] (fS [2, 4, 5, 6, 11, 12, 13, 17, 19] [vP b1, vP b6, vP b11, .func (.func 99) ⟨[]⟩ ⟨[vP b6, vP b11]⟩, vL g_l_ l_, vI (ln l_), vI v20, .func (.func 99) ⟨[]⟩ ⟨[vP b6, vP b11]⟩, vG [vU ((gi l_ v20).Token.Kind), vS (gi l_ v20).Token.Text, vI ((gi l_ v20).Token.Num), vS (gi l_ v20).Token.Unit, vB ((gi l_ v20).Token.Flag)]]) [rN b29 0 [vU ((gi l_ v20).Token.Kind), vS (gi l_ v20).Token.Text, vI ((gi l_ v20).Token.Num), vS (gi l_ v20).Token.Unit, vB ((gi l_ v20).Token.Flag)]] H33 (by decide) (by kernel_rfl) ⟨((hS.bk 0 rfl).atD rfl), trivial⟩ fun _ _ H35 hb => ?_
   replace hS := hS.below hb
   clear H33 hb
   obtain ⟨y36, hy36, hm⟩ := bindE hm
   have hd := hS.hand [3, 2, 1] [0, 4, 5] rfl rfl
   refine m_stp [20, 2, 4, 5, 6, 11, 12, 13] (fS [2, 4, 5, 6, 11, 12, 13] [vP b1, vP b6, vP b11, .func (.func 99) ⟨[]⟩ ⟨[vP b6, vP b11]⟩, vL g_l_ l_, vI (ln l_), vI v20]) H35 rfl rfl rfl rfl (o_callx H35 rfl rfl (parseval_rgb_1_ok (b_u0 := b6) (b_u1 := b11) (g_u1 := g22) _ _ _ _ hy36 _ _ hd)) (fun _ => rfl) fun _ _ v H40 hq => ?_
   clear H35 hd
   obtain ⟨g37, rfl, hq⟩ := hq
   replace hS : SH M X w [eB b6 [vS y36.1], eB b11 [vL g37 y36.2], eO 2 (tI .i64) y36.2 g37, eB b29 [vU ((gi l_ v20).Token.Kind), vS (gi l_ v20).Token.Text, vI ((gi l_ v20).Token.Num), vS (gi l_ v20).Token.Unit, vB ((gi l_ v20).Token.Flag), .slice (g_l_.s (v20).toNat 0).a (((gi l_ v20).List_).length) (g_l_.s (v20).toNat 0).c], eB b1 [vU 0, vU 0, vU 0, vU 0], eI tyValue l_ g_l_] _ := hS.join [3, 2, 1] [0, 4, 5] rfl rfl hq
   clear hq
   apply wl_end rfl
   replace hS : SH M X w [eB b6 [vS y36.1], eB b11 [vL g37 y36.2], eO 2 (tI .i64) y36.2 g37, eB b1 [vU 0, vU 0, vU 0, vU 0], eI tyValue l_ g_l_] _ := hS.sel [0, 1, 2, 4, 5] rfl
   refine w_reg [] [2, 4, 5, 6, 11, 12, 13] (fS [2, 4, 5, 6, 11, 12, 13] [vP b1, vP b6, vP b11, .func (.func 99) ⟨[]⟩ ⟨[vP b6, vP b11]⟩, vL g_l_ l_, vI (ln l_), vI (w64 (v20 + 1))]) [] H40 (by kernel_rfl) trivial fun _ _ H42 hb => ?_
   replace hS := hS.below hb
   clear H40 hb
   replace hS : SH M X w [eO 2 (tI .i64) y36.2 g37, eB b11 [vL g37 y36.2], eB b6 [vS y36.1], eB b1 [vU 0, vU 0, vU 0, vU 0], eI tyValue l_ g_l_] _ := hS.sel [2, 1, 0, 3, 4] rfl
   exact ⟨_, Nat.lt_succ_self _, w64 (v20 + 1), y36.2, y36.1, g37, hm, FrG.keep (ks := [2, 4, 5, 6, 11, 12, 13]) H42 (by kernel_rfl), hS⟩
 ·rintro _ _ ⟨g45, H, hS⟩
  replace hS : SH M X w [eO 2 (tI .i64) z16.2 g45, eB b11 [vL g45 z16.2], eB b6 [vS z16.1], eB b1 [vU 0, vU 0, vU 0, vU 0]] _ := hS.sel [0, 1, 2, 3] rfl
  obtain ⟨z47, hz, hm_z47⟩ := bindE hm
  refine w_cut (fun a' w' => ∃ s_z47 : List Int, z47 = Sum.inr s_z47 ∧ ∃ (g86 : Gh), Fr 49 (fS [2, 5] [vP b1, vP b11]) a' ∧ SH M X w [eO 2 (tI .i64) s_z47 g86, eB b11 [vL g86 s_z47], eB b6 [vS z16.1], eB b1 [vU 0, vU 0, vU 0, vU 0]] w') ?_ ?_
  ·replace hm := hz
   refine s_reg [(vS z16.1)] [2, 5, 22] (fS [2, 5, 22] [vP b1, vP b11, vS z16.1]) [rA b6 0 (vS z16.1)] H (by kernel_rfl) ⟨((hS.bk 2 rfl).at1 rfl), trivial⟩ fun _ _ H49 hb => ?_
   replace hS := hS.below hb
   clear H hb
   apply w_block
   obtain ⟨z50, hz, hm⟩ := bindE hm
   refine w_cut (fun a' w' => Fr 49 (fS [2, 5, 22, 24] [vP b1, vP b11, vS z16.1, vB z50]) a' ∧ SH M X w [eO 2 (tI .i64) z16.2 g45, eB b11 [vL g45 z16.2], eB b6 [vS z16.1], eB b1 [vU 0, vU 0, vU 0, vU 0]] w') ?_ ?_
   ·replace hm := hz
    refine s_reg [] [2, 5, 22, 24] (fS [2, 5, 22, 24] [vP b1, vP b11, vS z16.1, vB (z16.1 == [110, 110, 110])]) [] H49 (by kernel_rfl) trivial fun _ _ H52 hb => ?_
    replace hS := hS.below hb
    clear H49 hb
    refine w_if H52 rfl (fun hc => ?c55) (fun hc => ?_)
    case c55 =>
     replace hm := bT hc hm
     apply w_skip
     obtain rfl := someE hm
     exact ⟨FrG.keep (ks := [2, 5, 22, 24]) H52 (by kernel_rfl), hS⟩
    replace hm := bF hc hm
    refine w_reg [] [2, 5, 22, 24] (fS [2, 5, 22, 24] [vP b1, vP b11, vS z16.1, vB (z16.1 == [110, 44, 110, 44, 110])]) [] H52 (by kernel_rfl) trivial fun _ _ H54 hb => ?_
    replace hS := hS.below hb
    clear H52 hb
    obtain rfl := someE hm
    exact ⟨FrG.keep (ks := [2, 5, 22, 24]) H54 (by kernel_rfl), hS⟩
   ·rintro _ _ ⟨H, hS⟩
    refine w_if H rfl (fun hc => ?c84) (fun hc => ?_)
    case c84 =>
     replace hm := bT hc hm
     apply wl_start
     refine wl_batch 0 1 [(vL g45 z16.2)] [2, 5, 27] (fS [2, 5, 27] [vP b1, vP b11, vL g45 z16.2]) [rA b11 0 (vL g45 z16.2)] H (by decide) (by kernel_rfl) ⟨((hS.bk 1 rfl).at1 rfl), trivial⟩ fun _ _ H57 hb => ?_
     replace hS := hS.below hb
     clear H hb
     have hd := hS.hand [] [0, 1, 2, 3] rfl rfl
     refine m_stp [28, 2, 5, 27] (fS [2, 5, 27] [vP b1, vP b11, vL g45 z16.2]) H57 rfl rfl rfl rfl (o_lit (T := (tI .i64)) (E := 2) (zv := vI 0) [vI 1000] ([1000] : List Int) [gL []] _ H57 hd rfl (by kernel_rfl) (by kernel_rfl) (by kernel_rfl) (by kernel_rfl) (by kernel_rfl) (by kernel_rfl) (by kernel_rfl) rfl (InnL.cons trivial InnL.nil)) (fun _ => rfl) fun _ _ v H61 hq => ?_
     clear H57 hd
     obtain ⟨g58, rfl, hq⟩ := hq
     replace hS : SH M X w [eO 2 (tI .i64) ([1000] : List Int) g58, eO 2 (tI .i64) z16.2 g45, eB b11 [vL g45 z16.2], eB b6 [vS z16.1], eB b1 [vU 0, vU 0, vU 0, vU 0]] _ := hS.join [] [0, 1, 2, 3] rfl rfl hq
     clear hq
     obtain ⟨ho62, hm⟩ := chkE hm
     obtain ⟨q63, hq63, hm⟩ := letE hm
     have hd := hS.hand [1, 0] [2, 3, 4] rfl rfl
     refine m_stp [29, 2, 5] (fS [2, 5] [vP b1, vP b11]) H61 rfl rfl rfl rfl (o_app2 (T := (tI .i64)) (zv := vI 0) (g1 := g45) (g2 := g58) (l1 := z16.2) (l2 := ([1000] : List Int)) q63 hq63.symm H61 hd rfl rfl rfl rfl rfl rfl rfl (by kernel_rfl) (by kernel_rfl) rfl rfl ho62) (fun _ => rfl) fun _ _ v H65 hq => ?_
     clear H61 hd
     obtain ⟨g66, rfl, hq⟩ := hq
     replace hS : SH M X w [eO 2 (tI .i64) q63 g66, eO 2 (tI .i64) ([1000] : List Int) g58, eB b11 [vL g45 z16.2], eB b6 [vS z16.1], eB b1 [vU 0, vU 0, vU 0, vU 0]] _ := hS.join [1, 0] [2, 3, 4] rfl rfl hq
     clear hq
     have hd := hS.hand [2] [0, 1, 3, 4] rfl rfl
     refine m_stp0 [2, 5] (fS [2, 5] [vP b1, vP b11]) H65 rfl rfl rfl (o_store [vL g66 q63] H65 hd rfl rfl (by kernel_rfl) rfl rfl rfl) rfl fun _ _ H68 hq => ?_
     clear H65 hd
     obtain ⟨_, hq⟩ := hq
     replace hS : SH M X w [eB b11 [vL g66 q63], eO 2 (tI .i64) q63 g66, eO 2 (tI .i64) ([1000] : List Int) g58, eB b6 [vS z16.1], eB b1 [vU 0, vU 0, vU 0, vU 0]] _ := hS.join [2] [0, 1, 3, 4] rfl rfl hq
     clear hq
     apply wl_end rfl
     replace hS : SH M X w [eB b11 [vL g66 q63], eO 2 (tI .i64) q63 g66, eB b6 [vS z16.1], eB b1 [vU 0, vU 0, vU 0, vU 0]] _ := hS.sel [0, 1, 3, 4] rfl
     obtain rfl := someE hm
     replace hS : SH M X w [eO 2 (tI .i64) q63 g66, eB b11 [vL g66 q63], eB b6 [vS z16.1], eB b1 [vU 0, vU 0, vU 0, vU 0]] _ := hS.sel [1, 0, 2, 3] rfl
     exact ⟨_, rfl, g66, FrG.keep (ks := [2, 5]) H68 (by kernel_rfl), hS⟩
    replace hm := bF hc hm
    obtain ⟨z69, hz, hm⟩ := bindE hm
    refine w_cut (fun a' w' => Fr 49 (fS [2, 5, 30] [vP b1, vP b11, vB z69]) a' ∧ SH M X w [eO 2 (tI .i64) z16.2 g45, eB b11 [vL g45 z16.2], eB b6 [vS z16.1], eB b1 [vU 0, vU 0, vU 0, vU 0]] w') ?_ ?_
    ·replace hm := hz
     refine s_reg [] [2, 5, 22, 30] (fS [2, 5, 22, 30] [vP b1, vP b11, vS z16.1, vB (z16.1 == [110, 110, 110, 47, 110])]) [] H (by kernel_rfl) trivial fun _ _ H71 hb => ?_
     replace hS := hS.below hb
     clear H hb
     refine w_if H71 rfl (fun hc => ?c75) (fun hc => ?_)
     case c75 =>
      replace hm := bT hc hm
      apply w_skip
      obtain rfl := someE hm
      exact ⟨FrG.keep (ks := [2, 5, 30]) H71 (by kernel_rfl), hS⟩
     replace hm := bF hc hm
     obtain ⟨x72, hx72, hm⟩ := letE hm
     refine w_reg [] [2, 5, 30] (fS [2, 5, 30] [vP b1, vP b11, vB x72]) [] H71 (by subst hx72; kernel_rfl) trivial fun _ _ H74 hb => ?_
     replace hS := hS.below hb
     clear H71 hb
     obtain rfl := someE hm
     exact ⟨FrG.keep (ks := [2, 5, 30]) H74 (by kernel_rfl), hS⟩
    ·rintro _ _ ⟨H, hS⟩
     refine w_if H rfl (fun hc => ?c82) (fun hc => ?_)
     case c82 =>
      replace hm := bT hc hm
      apply w_skip
      obtain rfl := someE hm
      exact ⟨_, rfl, g45, FrG.keep (ks := [2, 5]) H (by kernel_rfl), hS⟩
     replace hm := bF hc hm
     apply w_seq
     apply wl_start
     refine wl_batch 0 1 [] [2, 23] (fS [2, 23] [vP b1, vG [vU 0, vU 0, vU 0, vU 0]]) [] H (by decide) (by kernel_rfl) trivial fun _ _ H77 hb => ?_
     replace hS := hS.below hb
     clear H hb
     have hd := hS.hand [3] [0, 1, 2] rfl rfl
     refine m_stp0 [2] [(2, [], vP b1)] H77 rfl rfl rfl (o_store [vU 0, vU 0, vU 0, vU 0] H77 hd rfl rfl (by kernel_rfl) rfl rfl rfl) rfl fun _ _ H79 hq => ?_
     clear H77 hd
     obtain ⟨_, hq⟩ := hq
     replace hS : SH M X w [eB b1 [vU 0, vU 0, vU 0, vU 0], eO 2 (tI .i64) z16.2 g45, eB b11 [vL g45 z16.2], eB b6 [vS z16.1]] _ := hS.join [3] [0, 1, 2] rfl rfl hq
     clear hq
     refine wl_batch 2 3 [] [2, 3] (fS [2, 3] [vP b1, vF]) [] H79 (by decide) (by kernel_rfl) trivial fun _ _ H81 hb => ?_
     replace hS := hS.below hb
     clear H79 hb
     apply wl_end rfl
     apply w_ret
     obtain rfl := someE hm
     have hm := hm_z47
     obtain rfl := someE hm
     exact retR2 H81 rfl (oneRes_agg rfl (hS.bk 0 rfl) Tryz.underlying55 rfl (by kernel_rfl)) rfl ⟨_, rfl, rfl, (hS.sel [] rfl)⟩
  ·rintro _ _ ⟨s_z47, hz, g86, H, hS⟩
   subst hz
   replace hm := sumR hm_z47
   replace hS : SH M X w [eO 2 (tI .i64) s_z47 g86, eB b11 [vL g86 s_z47], eB b1 [vU 0, vU 0, vU 0, vU 0]] _ := hS.sel [0, 1, 3] rfl
   refine s_reg [] [2, 5, 9] (fS [2, 5, 9] [vP b1, vP b11, .func (.func 100) ⟨[]⟩ ⟨[vP b11]⟩]) [] H (by kernel_rfl) trivial fun _ _ H88 hb => ?_
   replace hS := hS.below hb
   clear H hb
   obtain ⟨y90, hy90, hm⟩ := bindE hm
   obtain ⟨y91, hy91, hm⟩ := bindE hm
   obtain ⟨y92, hy92, hm⟩ := bindE hm
   obtain ⟨ho93, hm⟩ := chkE hm
   obtain ⟨x94, hx94, hm⟩ := letE hm
   obtain ⟨x95, hx95, hm⟩ := letE hm
   refine s_drawS (base := (fS [2, 5, 9] [vP b1, vP b11, .func (.func 100) ⟨[]⟩ ⟨[vP b11]⟩])) (L := [eO 2 (tI .i64) s_z47 g86, eB b11 [vL g86 s_z47], eB b1 [vU 0, vU 0, vU 0, vU 0]]) 17 3 (fun yg89 => [.func (.func 100) ⟨[]⟩ ⟨[vP b11]⟩, vU y90, .func (.func 100) ⟨[]⟩ ⟨[vP b11]⟩, vU y91, .func (.func 100) ⟨[]⟩ ⟨[vP b11]⟩, vU y92, vL g86 s_z47, .pointer (some ⟨ab g86.a, ao g86.a + ((3 : Int)).toNat * 1, none⟩), vI (gi s_z47 (3 : Int)), vI x94, vI (if 0 < x94 then x94 else 0), vI (w64 ((if 0 < x94 then x94 else 0) * 255)), vI x95, vU (wu8 x95), vG [vU y90, vU y91, vU y92, vU (wu8 x95)], undef, vT]) (fun yg89 => [[], [], [], [], [], [], [], [], [], [], [], [], [], [], [], [eB b1 [vU y90, vU y91, vU y92, vU (wu8 x95)]], []]) [[], [17, 18], [], [17, 18], [], [17, 18], [17, 18], [17], [17], [], [], [], [], [], [], [19], []] [[], [], [], [], [], [], [], [], [], [], [], [], [], [], [], [19], []] [[0], [0, 1], [2], [2, 3], [4], [4, 5], [6], [6, 7], [6, 7, 8], [6, 7, 8, 9], [6, 7, 8, 9, 10], [6, 7, 8, 9, 10, 11], [6, 7, 8, 9, 10, 11, 12], [6, 7, 8, 9, 10, 11, 12, 13], [0, 1, 2, 3, 4, 5, 6, 7, 8, 9, 10, 11, 12, 13, 14], [0, 1, 2, 3, 4, 5, 6, 7, 8, 9, 10, 11, 12, 13, 14, 15], [16]] [] (FrG.keep (ks := [2, 5, 9]) H88 (by kernel_rfl)) (fun _ _ h => by cases h) (by kernel_rfl) hS (by kernel_rfl) rfl rfl (by kernel_rfl) (by kernel_rfl) (by kernel_rfl) (gd_none (by kernel_rfl) _ _) ?hloc_yg89 ?hstep_yg89 fun _ _ yg89 H97 hv hS => ?hK_yg89
   case hloc_yg89 => exact ⟨(fun _ _ _ _ => ⟨rfl, rfl⟩), (fun _ _ _ _ => ⟨rfl, rfl⟩), (fun _ _ _ _ => ⟨rfl, rfl⟩), (fun _ _ _ _ => ⟨rfl, rfl⟩), (fun _ _ _ _ => ⟨rfl, rfl⟩), (fun _ _ _ _ => ⟨rfl, rfl⟩), (fun _ _ _ _ => ⟨rfl, rfl⟩), (fun _ _ _ _ => ⟨rfl, rfl⟩), (fun _ _ _ _ => ⟨rfl, rfl⟩), (fun _ _ _ _ => ⟨rfl, rfl⟩), (fun _ _ _ _ => ⟨rfl, rfl⟩), (fun _ _ _ _ => ⟨rfl, rfl⟩), (fun _ _ _ _ => ⟨rfl, rfl⟩), (fun _ _ _ _ => ⟨rfl, rfl⟩), (fun _ _ _ _ => ⟨rfl, rfl⟩), (fun _ _ _ _ => ⟨rfl, rfl⟩), (fun _ _ _ _ => ⟨rfl, rfl⟩), trivial⟩
   case hstep_yg89 =>
    refine ⟨?_, ?_, ?_, ?_, ?_, ?_, ?_, ?_, ?_, ?_, ?_, ?_, ?_, ?_, ?_, ?_, ?_, trivial⟩
    ·intro o ho a w yg89 M Hb hv hO hS
     obtain rfl := someE ho
     exact Stp.mono (o_evs [] (.func (.func 100) ⟨[]⟩ ⟨[vP b11]⟩) none [] Hb rfl (by kernel_rfl) (fun q e => by cases e)) fun _ _ hq => ⟨gL [], fun _ _ => hq.1, (hS.below hq.2.below).sel [] rfl⟩
    ·intro o ho a w yg89 M Hb hv hO hS
     obtain rfl := someE ho
     exact Stp.mono (o_evs [(vU y90)] (vU y90) (some (rB 100 [vI 0, vP b11] (vU y90))) [] ((Hb).add (hv 0 (by decide) (by decide) 34 rfl)) rfl (by kernel_rfl) (fun q e => by cases e; exact (parseval_rgb_2_ok (b_u0 := b11) (g_u0 := g86) _ _ _ hy90 _ (s0ro (s0im s0nil (hS.osl 0 rfl)) (hS.bk 1 rfl))))) fun _ _ hq => ⟨gL [], fun _ _ => hq.1, (hS.below hq.2.below).sel [0, 1] rfl⟩
    ·intro o ho a w yg89 M Hb hv hO hS
     obtain rfl := someE ho
     exact Stp.mono (o_evs [] (.func (.func 100) ⟨[]⟩ ⟨[vP b11]⟩) none [] Hb rfl (by kernel_rfl) (fun q e => by cases e)) fun _ _ hq => ⟨gL [], fun _ _ => hq.1, (hS.below hq.2.below).sel [] rfl⟩
    ·intro o ho a w yg89 M Hb hv hO hS
     obtain rfl := someE ho
     exact Stp.mono (o_evs [(vU y91)] (vU y91) (some (rB 100 [vI 1, vP b11] (vU y91))) [] ((Hb).add (hv 2 (by decide) (by decide) 36 rfl)) rfl (by kernel_rfl) (fun q e => by cases e; exact (parseval_rgb_2_ok (b_u0 := b11) (g_u0 := g86) _ _ _ hy91 _ (s0ro (s0im s0nil (hS.osl 0 rfl)) (hS.bk 1 rfl))))) fun _ _ hq => ⟨gL [], fun _ _ => hq.1, (hS.below hq.2.below).sel [0, 1] rfl⟩
    ·intro o ho a w yg89 M Hb hv hO hS
     obtain rfl := someE ho
     exact Stp.mono (o_evs [] (.func (.func 100) ⟨[]⟩ ⟨[vP b11]⟩) none [] Hb rfl (by kernel_rfl) (fun q e => by cases e)) fun _ _ hq => ⟨gL [], fun _ _ => hq.1, (hS.below hq.2.below).sel [] rfl⟩
    ·intro o ho a w yg89 M Hb hv hO hS
     obtain rfl := someE ho
     exact Stp.mono (o_evs [(vU y92)] (vU y92) (some (rB 100 [vI 2, vP b11] (vU y92))) [] ((Hb).add (hv 4 (by decide) (by decide) 38 rfl)) rfl (by kernel_rfl) (fun q e => by cases e; exact (parseval_rgb_2_ok (b_u0 := b11) (g_u0 := g86) _ _ _ hy92 _ (s0ro (s0im s0nil (hS.osl 0 rfl)) (hS.bk 1 rfl))))) fun _ _ hq => ⟨gL [], fun _ _ => hq.1, (hS.below hq.2.below).sel [0, 1] rfl⟩
    ·intro o ho a w yg89 M Hb hv hO hS
     obtain rfl := someE ho
     exact Stp.mono (o_evs [(vL g86 s_z47)] (vL g86 s_z47) (some (rA b11 0 (vL g86 s_z47))) [] Hb rfl (by kernel_rfl) (fun q e => by cases e; exact ((hS.bk 1 rfl).at1 rfl))) fun _ _ hq => ⟨gL [], fun _ _ => hq.1, (hS.below hq.2.below).sel [0, 1] rfl⟩
    ·intro o ho a w yg89 M Hb hv hO hS
     obtain rfl := someE ho
     exact Stp.mono (o_evs [] (.pointer (some ⟨ab g86.a, ao g86.a + ((3 : Int)).toNat * 1, none⟩)) (some (fun _ => oka g86.a ∧ 0 ≤ (3 : Int) ∧ (3 : Int) < ln s_z47)) [] ((Hb).add (hv 6 (by decide) (by decide) 40 rfl)) rfl (by kernel_rfl) (fun q e => by cases e; exact ((hS.osl 0 rfl).oki ho93))) fun _ _ hq => ⟨gL [], fun _ _ => hq.1, (hS.below hq.2.below).sel [0] rfl⟩
    ·intro o ho a w yg89 M Hb hv hO hS
     obtain rfl := someE ho
     exact Stp.mono (o_evs [(vI (gi s_z47 (3 : Int)))] (vI (gi s_z47 (3 : Int))) (some (fun wz => V.at1 ⟨ab g86.a, ao g86.a + ((3 : Int)).toNat * 1, none⟩ (vI (gi s_z47 (3 : Int))) wz)) [] ((Hb).add (hv 7 (by decide) (by decide) 41 rfl)) rfl (by kernel_rfl) (fun q e => by cases e; exact ((hS.osl 0 rfl).at1 ho93 0 rfl))) fun _ _ hq => ⟨gL [], fun _ _ => hq.1, (hS.below hq.2.below).sel [0] rfl⟩
    ·intro o ho a w yg89 M Hb hv hO hS
     obtain rfl := someE ho
     exact Stp.mono (o_evs [] (vI x94) none [] ((Hb).add (hv 8 (by decide) (by decide) 42 rfl)) rfl (by subst hx94; kernel_rfl) (fun q e => by cases e)) fun _ _ hq => ⟨gL [], fun _ _ => hq.1, (hS.below hq.2.below).sel [] rfl⟩
    ·intro o ho a w yg89 M Hb hv hO hS
     obtain rfl := someE ho
     exact Stp.mono (o_evs [] (vI (if 0 < x94 then x94 else 0)) none [] ((Hb).add (hv 9 (by decide) (by decide) 43 rfl)) rfl (by kernel_rfl) (fun q e => by cases e)) fun _ _ hq => ⟨gL [], fun _ _ => hq.1, (hS.below hq.2.below).sel [] rfl⟩
    ·intro o ho a w yg89 M Hb hv hO hS
     obtain rfl := someE ho
     exact Stp.mono (o_evs [] (vI (w64 ((if 0 < x94 then x94 else 0) * 255))) none [] ((Hb).add (hv 10 (by decide) (by decide) 44 rfl)) rfl (by kernel_rfl) (fun q e => by cases e)) fun _ _ hq => ⟨gL [], fun _ _ => hq.1, (hS.below hq.2.below).sel [] rfl⟩
    ·intro o ho a w yg89 M Hb hv hO hS
     obtain rfl := someE ho
     exact Stp.mono (o_evs [] (vI x95) (some (fun _ => (1000 : Int) ≠ 0)) [] ((Hb).add (hv 11 (by decide) (by decide) 45 rfl)) rfl (by subst hx95; kernel_rfl) (fun q e => by cases e; exact (by show (1000 : Int) ≠ 0; decide))) fun _ _ hq => ⟨gL [], fun _ _ => hq.1, (hS.below hq.2.below).sel [] rfl⟩
    ·intro o ho a w yg89 M Hb hv hO hS
     obtain rfl := someE ho
     exact Stp.mono (o_evs [] (vU (wu8 x95)) none [] ((Hb).add (hv 12 (by decide) (by decide) 46 rfl)) rfl (by kernel_rfl) (fun q e => by cases e)) fun _ _ hq => ⟨gL [], fun _ _ => hq.1, (hS.below hq.2.below).sel [] rfl⟩
    ·intro o ho a w yg89 M Hb hv hO hS
     obtain rfl := someE ho
     exact Stp.mono (o_evs [] (vG [vU y90, vU y91, vU y92, vU (wu8 x95)]) none [] (((((Hb).add (hv 1 (by decide) (by decide) 35 rfl)).add (hv 3 (by decide) (by decide) 37 rfl)).add (hv 5 (by decide) (by decide) 39 rfl)).add (hv 13 (by decide) (by decide) 47 rfl)) rfl (by kernel_rfl) (fun q e => by cases e)) fun _ _ hq => ⟨gL [], fun _ _ => hq.1, (hS.below hq.2.below).sel [] rfl⟩
    ·intro o ho a w yg89 M Hb hv hO hS0
     obtain rfl := someE ho
     have H : Fr 49 ([(48, [], vG [vU y90, vU y91, vU y92, vU (wu8 x95)])] ++ (fS [2, 5, 9] [vP b1, vP b11, .func (.func 100) ⟨[]⟩ ⟨[vP b11]⟩])) _ := (Hb).add (hv 14 (by decide) (by decide) 48 rfl)
     obtain ⟨X, hX⟩ : ∃ X, X = fpl [eB b1 [vU 0, vU 0, vU 0, vU 0]] := ⟨_, rfl⟩
     have hS : SH M X w [eB b1 [vU 0, vU 0, vU 0, vU 0]] w := by rw [hX]; exact hS0
     have hd := hS.hand [0] [] rfl rfl
     refine Stp.mono (o_store [vU y90, vU y91, vU y92, vU (wu8 x95)] H hd rfl rfl (by kernel_rfl) rfl rfl rfl) ?_
     rintro v w2 hq
     replace hS : SH M X w [eB b1 [vU y90, vU y91, vU y92, vU (wu8 x95)]] _ := hS.join [0] [] rfl rfl hq
     clear hq
     rw [hX] at hS
     exact ⟨gL [], (fun _ h => by cases h), hS.sel [0] rfl⟩
    ·intro o ho a w yg89 M Hb hv hO hS
     obtain rfl := someE ho
     exact Stp.mono (o_evs [] (vT) none [] Hb rfl (by kernel_rfl) (fun q e => by cases e)) fun _ _ hq => ⟨gL [], fun _ _ => hq.1, (hS.below hq.2.below).sel [] rfl⟩
   have H98 : Fr 49 (fS [3, 2] [vT, vP b1]) _ := (FrG.add (FrG.keep (ks := [2]) H97 (by kernel_rfl)) (hv 16 3 rfl))
   replace hS : SH M X w [eB b1 [vU y90, vU y91, vU y92, vU (wu8 x95)], eO 2 (tI .i64) s_z47 g86, eB b11 [vL g86 s_z47]] _ := hS
   clear hv H97
   replace hS : SH M X w [eB b1 [vU y90, vU y91, vU y92, vU (wu8 x95)]] _ := hS.sel [0] rfl
   apply w_ret
   obtain rfl := someE hm
   exact retR2 H98 rfl (oneRes_agg rfl (hS.bk 0 rfl) Tryz.underlying55 rfl (by kernel_rfl)) rfl ⟨_, rfl, rfl, (hS.sel [] rfl)⟩
theorem parseval_rgb_ok {g_l_ : Gh} (m : Nat) (l_ : List TValue) (r : TColor × Bool) (hm : parseval_rgb m l_ = some r) (w : World) (hL : S0 F0 [eI tyValue l_ g_l_] w ∧ fpl [eI tyValue l_ g_l_] = []) : RetB Tryz.prog 88 ⟨[vL g_l_ l_]⟩ (vW [vG (cC r.1), vB r.2]) w := retB_of hL (Tryz.call88 _) (fun w' h => parseval_rgb_w F0 m   l_ r hm w' h)

end Go.Proofs.YtpgflfjmjppmeaaGreatDoor
