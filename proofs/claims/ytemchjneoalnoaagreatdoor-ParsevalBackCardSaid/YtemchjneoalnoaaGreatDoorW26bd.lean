/-
  What the Go functions compute, as Lean functions, and that a call returns just that. Printed by a program.
-/
import Derived.Test.YtemchjneoalnoaaGreatDoorRows
import Derived.Test.YtemchjneoalnoaaGreatDoorX
import Derived.Test.YtemchjneoalnoaaGreatDoorIF
import Derived.Test.YtemchjneoalnoaaGreatDoorMP
import Derived.Test.YtemchjneoalnoaaGreatDoorM
import Derived.Test.YtemchjneoalnoaaGreatDoorW26bc
set_option linter.unusedVariables false
set_option maxRecDepth 20000
set_option maxHeartbeats 4000000
namespace Go.Proofs.YtemchjneoalnoaaGreatDoor
open Go.V Go.RowKit

theorem law26_ParsevalBack_w  (M : Av) (m : Nat) (prop : Int) (v_ : TVal) (w_ : TVal) (r : Bool) (hm : law26_ParsevalBack m prop v_ w_ = some r) (w : World) (hS : S0 M [gE1, Ent.tab 0 (Lib.pow10Tab.map fun z => Value.int .u64 z), gE5] w) : Calls Tryz.prog 6 ⟨[vI prop, vG (cV v_), vG (cV w_)]⟩ w (fun e w' => ∃ v, e = .returned v ∧ v = vB r ∧ SH M (fpl [gE1, Ent.tab 0 (Lib.pow10Tab.map fun z => Value.int .u64 z), gE5]) w [] w') := by
 rw [law26_ParsevalBack] at hm
 have hS0 : SH M (fpl [gE1, Ent.tab 0 (Lib.pow10Tab.map fun z => Value.int .u64 z), gE5]) w [gE1, Ent.tab 0 (Lib.pow10Tab.map fun z => Value.int .u64 z), gE5] w := hS
 generalize hX : fpl [gE1, Ent.tab 0 (Lib.pow10Tab.map fun z => Value.int .u64 z), gE5] = X at hS0 ⊢
 clear hS hX
 have hS := hS0
 clear hS0
 refine calls_entryP Tryz.func6 rfl Tryz.ntmps6 rfl fun _ H => ?_
 apply w_seq
 apply wl_start
 have hd := hS.hand [] [0, 1, 2] rfl rfl
 refine m_stp [4, 0, 2] (fS [0, 2] [vI prop, vG (cV w_)]) H rfl rfl rfl rfl (o_box (cV v_) H hd rfl rfl) (fun _ => rfl) fun _ _ v H3 hq => ?_
 clear H hd
 obtain ⟨b1, rfl, hq⟩ := hq
 replace hS : SH M X w [eB b1 (cV v_), gE1, Ent.tab 0 (Lib.pow10Tab.map fun z => Value.int .u64 z), gE5] _ := hS.join [] [0, 1, 2] rfl rfl hq
 clear hq
 have hd := hS.hand [] [0, 1, 2, 3] rfl rfl
 refine m_stp [5, 0, 4] (fS [0, 4] [vI prop, vP b1]) H3 rfl rfl rfl rfl (o_box (cV w_) H3 hd rfl rfl) (fun _ => rfl) fun _ _ v H6 hq => ?_
 clear H3 hd
 obtain ⟨b4, rfl, hq⟩ := hq
 replace hS : SH M X w [eB b4 (cV w_), eB b1 (cV v_), gE1, Ent.tab 0 (Lib.pow10Tab.map fun z => Value.int .u64 z), gE5] _ := hS.join [] [0, 1, 2, 3] rfl rfl hq
 clear hq
 refine wl_batch 2 3 [] [0, 4, 5] (fS [0, 4, 5] [vI prop, vP b1, vP b4]) [] H6 (by decide) (by kernel_rfl) trivial fun _ _ H8 hb => ?_
 replace hS := hS.below hb
 clear H6 hb
 apply wl_end rfl
 obtain ⟨y9, hy9, hm⟩ := bindE hm
 refine s_reg [(vB y9)] [0, 4, 5, 7] (fS [0, 4, 5, 7] [vI prop, vP b1, vP b4, vB y9]) [rB 8 [] (vB y9)] H8 (by kernel_rfl) ⟨(law26_alive_ok 300 _ hy9 _ (s0im (s0tab (s0im s0nil (hS.im 4 rfl)) (hS.at 3 rfl)) (hS.im 2 rfl))), trivial⟩ fun _ _ H11 hb => ?_
 replace hS := hS.below hb
 clear H8 hb
 obtain ⟨y12, hy12, hm⟩ := bindE hm
 refine s_reg [(vG (cV v_)), (vW [vB y12.1, vI y12.2])] [0, 4, 5, 7, 8, 9] (fS [0, 4, 5, 7, 8, 9] [vI prop, vP b1, vP b4, vB y9, vB y12.1, vI y12.2]) [rN b1 0 (cV v_), rB 23 [vI prop, vG (cV v_)] (vW [vB y12.1, vI y12.2])] H11 (by kernel_rfl) ⟨((hS.bk 1 rfl).atD rfl), ((r25_Has_ok 64 _ _ _ hy12).b), trivial⟩ fun _ _ H14 hb => ?_
 replace hS := hS.below hb
 clear H11 hb
 apply w_seq
 obtain ⟨x15, hx15, hm⟩ := letE hm
 refine s_reg [(vS w_.Word)] [0, 4, 5, 7, 38] (fS [0, 4, 5, 7, 38] [vI prop, vP b1, vP b4, vB y9, vB (cond x15 true (!y9))]) [fun wz => ((cond (y12.2 != 0) true (!y12.1)) = false ∧ True → V.at1 ⟨b4, 1, none⟩ (vS w_.Word) wz)] H14 (by subst hx15; kernel_rfl) ⟨fun hg => (hS.bk 0 rfl).at1 rfl, trivial⟩ fun _ _ H17 hb => ?_
 replace hS := hS.below hb
 clear H14 hb
 refine w_if H17 rfl (fun hc => ?c43) (fun hc => ?_)
 case c43 =>
  replace hm := bT hc hm
  refine s_reg [] [6] [(6, [], vB y9)] [] H17 (by kernel_rfl) trivial fun _ _ H19 hb => ?_
  replace hS := hS.below hb
  clear H17 hb
  replace hS : SH M X w [gE1, Ent.tab 0 (Lib.pow10Tab.map fun z => Value.int .u64 z), gE5] _ := hS.sel [2, 3, 4] rfl
  apply w_ret
  obtain rfl := someE hm
  exact retR1 H19 rfl rfl ⟨_, rfl, rfl, (hS.sel [] rfl)⟩
 replace hm := bF hc hm
 apply w_skip
 obtain ⟨y20, hy20, hm⟩ := bindE hm
 refine s_reg [(vG (cV v_)), (vW [vS y20.1, vI y20.2])] [0, 4, 5, 7, 10, 11] (fS [0, 4, 5, 7, 10, 11] [vI prop, vP b1, vP b4, vB y9, vS y20.1, vI y20.2]) [rN b1 0 (cV v_), rB 21 [vG (cV v_)] (vW [vS y20.1, vI y20.2])] H17 (by kernel_rfl) ⟨((hS.bk 1 rfl).atD rfl), (parseval_Write_ok 300 _ _ hy20 _ (s0tab (s0im s0nil (hS.im 4 rfl)) (hS.at 3 rfl))), trivial⟩ fun _ _ H22 hb => ?_
 replace hS := hS.below hb
 clear H17 hb
 apply w_seq
 obtain ⟨y23, hy23, hm⟩ := bindE hm
 refine s_reg [(vG (cV v_)), (vB y23)] [0, 4, 5, 7, 10, 53] (fS [0, 4, 5, 7, 10, 53] [vI prop, vP b1, vP b4, vB y9, vS y20.1, vB (cond (y20.2 != 0) true (!y23))]) [fun wz => ((y20.2 != 0) = false ∧ True → V.atN b1 0 (cV v_) 0 wz), fun wz => ((y20.2 != 0) = false ∧ True → RetB Tryz.prog 18 ⟨[vI prop, vS y20.1, vG (cV v_)]⟩ (vB y23) wz)] H22 (by kernel_rfl) ⟨fun hg => (hS.bk 1 rfl).atD rfl, fun hg => law26_reads_ok 300 _ _ _ _ (bF (hg.1) hy23) _ (s0im s0nil (hS.im 2 rfl)), trivial⟩ fun _ _ H25 hb => ?_
 replace hS := hS.below hb
 clear H22 hb
 refine w_if H25 rfl (fun hc => ?c42) (fun hc => ?_)
 case c42 =>
  replace hm := bT hc hm
  refine s_reg [] [6] [(6, [], vF)] [] H25 (by kernel_rfl) trivial fun _ _ H27 hb => ?_
  replace hS := hS.below hb
  clear H25 hb
  replace hS : SH M X w [gE1, Ent.tab 0 (Lib.pow10Tab.map fun z => Value.int .u64 z), gE5] _ := hS.sel [2, 3, 4] rfl
  apply w_ret
  obtain rfl := someE hm
  exact retR1 H27 rfl rfl ⟨_, rfl, rfl, (hS.sel [] rfl)⟩
 replace hm := bF hc hm
 apply w_skip
 obtain ⟨y28, hy28, hm⟩ := bindE hm
 refine s_reg [(vG (cV w_)), (vW [vB y28.1, vI y28.2])] [4, 5, 7, 10, 12] (fS [4, 5, 7, 10, 12] [vP b1, vP b4, vB y9, vS y20.1, vB y28.1]) [rN b4 0 (cV w_), rB 23 [vI prop, vG (cV w_)] (vW [vB y28.1, vI y28.2])] H25 (by kernel_rfl) ⟨((hS.bk 0 rfl).atD rfl), ((r25_Has_ok 64 _ _ _ hy28).b), trivial⟩ fun _ _ H30 hb => ?_
 replace hS := hS.below hb
 clear H25 hb
 apply w_seq
 refine s_reg [] [4, 5, 7, 10, 61] (fS [4, 5, 7, 10, 61] [vP b1, vP b4, vB y9, vS y20.1, vB (!y28.1)]) [] H30 (by kernel_rfl) trivial fun _ _ H32 hb => ?_
 replace hS := hS.below hb
 clear H30 hb
 refine w_if H32 rfl (fun hc => ?c41) (fun hc => ?_)
 case c41 =>
  replace hm := bT hc hm
  refine s_reg [] [6] [(6, [], vB y9)] [] H32 (by kernel_rfl) trivial fun _ _ H34 hb => ?_
  replace hS := hS.below hb
  clear H32 hb
  replace hS : SH M X w [gE1, Ent.tab 0 (Lib.pow10Tab.map fun z => Value.int .u64 z), gE5] _ := hS.sel [2, 3, 4] rfl
  apply w_ret
  obtain rfl := someE hm
  exact retR1 H34 rfl rfl ⟨_, rfl, rfl, (hS.sel [] rfl)⟩
 replace hm := bF hc hm
 apply w_skip
 obtain ⟨y35, hy35, hm⟩ := bindE hm
 refine s_reg [(vG (cV w_)), (vW [vS y35.1, vI y35.2])] [4, 5, 7, 10, 14, 15] (fS [4, 5, 7, 10, 14, 15] [vP b1, vP b4, vB y9, vS y20.1, vS y35.1, vI y35.2]) [rN b4 0 (cV w_), rB 21 [vG (cV w_)] (vW [vS y35.1, vI y35.2])] H32 (by kernel_rfl) ⟨((hS.bk 0 rfl).atD rfl), (parseval_Write_ok 300 _ _ hy35 _ (s0tab (s0im s0nil (hS.im 4 rfl)) (hS.at 3 rfl))), trivial⟩ fun _ _ H37 hb => ?_
 replace hS := hS.below hb
 clear H32 hb
 obtain ⟨x38, hx38, hm⟩ := letE hm
 refine s_reg [(vG (cV v_)), (vG (cV w_))] [6] [(6, [], vB x38)] [fun wz => ((cond y9 (y35.2 == 0) false) = true ∧ True → V.atN b1 0 (cV v_) 0 wz), fun wz => ((cond y9 (y35.2 == 0) false) = true ∧ True → V.atN b4 0 (cV w_) 0 wz)] H37 (by subst hx38; kernel_rfl) ⟨fun hg => (hS.bk 1 rfl).atD rfl, fun hg => (hS.bk 0 rfl).atD rfl, trivial⟩ fun _ _ H40 hb => ?_
 replace hS := hS.below hb
 clear H37 hb
 replace hS : SH M X w [gE1, Ent.tab 0 (Lib.pow10Tab.map fun z => Value.int .u64 z), gE5] _ := hS.sel [2, 3, 4] rfl
 apply w_ret
 obtain rfl := someE hm
 exact retR1 H40 rfl rfl ⟨_, rfl, rfl, (hS.sel [] rfl)⟩
theorem law26_ParsevalBack_ok  (m : Nat) (prop : Int) (v_ : TVal) (w_ : TVal) (r : Bool) (hm : law26_ParsevalBack m prop v_ w_ = some r) (w : World) (hL : S0 F0 [gE1, Ent.tab 0 (Lib.pow10Tab.map fun z => Value.int .u64 z), gE5] w ∧ fpl [gE1, Ent.tab 0 (Lib.pow10Tab.map fun z => Value.int .u64 z), gE5] = []) : RetB Tryz.prog 6 ⟨[vI prop, vG (cV v_), vG (cV w_)]⟩ (vB r) w := retB_of hL (Tryz.call6 _) (fun w' h => law26_ParsevalBack_w F0 m   prop v_ w_ r hm w' h)

end Go.Proofs.YtemchjneoalnoaaGreatDoor
