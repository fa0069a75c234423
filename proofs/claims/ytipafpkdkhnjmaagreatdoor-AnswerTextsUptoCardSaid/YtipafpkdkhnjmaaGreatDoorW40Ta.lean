/-
  What the Go functions compute, as Lean functions, and that a call returns just that. Printed by a program.
-/
import Derived.Test.YtipafpkdkhnjmaaGreatDoorRows
import Derived.Test.YtipafpkdkhnjmaaGreatDoorA
import Derived.Test.YtipafpkdkhnjmaaGreatDoorIA
import Derived.Test.YtipafpkdkhnjmaaGreatDoorRN
import Derived.Test.YtipafpkdkhnjmaaGreatDoorM
set_option linter.unusedVariables false
set_option maxRecDepth 20000
set_option maxHeartbeats 4000000
namespace Go.Proofs.YtipafpkdkhnjmaaGreatDoor
open Go.V Go.RowKit

abbrev vS (l : Str) : Value := .string ⟨⟨l⟩⟩
abbrev vN : Value := .string ⟨⟨[]⟩⟩
abbrev vI (n : Int) : Value := .int .i64 n
abbrev vU (n : Int) : Value := .int .u8 n
abbrev vT : Value := .bool true
abbrev vF : Value := .bool false
abbrev vP (b : Nat) : Value := .pointer (some ⟨b, 0, none⟩)
abbrev vA (b o : Nat) : Value := .pointer (some ⟨b, o, none⟩)
abbrev vQ : Value := .pointer none
abbrev vO : Value := .slice none 0 0
abbrev vB (b : Bool) : Value := .bool b
abbrev vG (l : List Value) : Value := .agg ⟨l⟩
abbrev vW (l : List Value) : Value := .tuple ⟨l⟩
abbrev vJ (n : Int) : Value := .int .i32 n
abbrev vL {α : Type} (g : Gh) (l : List α) : Value := .slice g.a l.length g.c
abbrev eO {α : Type} (E : TypeId) (T : Ty α) (l : List α) (g : Gh) : Ent := .own E T l g
abbrev eI {α : Type} (T : Ty α) (l : List α) (g : Gh) : Ent := .im T l g
abbrev eB (b : Nat) (cs : List Value) : Ent := .blk b cs
abbrev zN : List Value := [vN, vI 0, vN, vQ, vO]
def fS : List Nat → List Value → SF
  | k :: ks, v :: vs => (k, [], v) :: fS ks vs
  | _, _ => []
abbrev vK (g : Gh) (n : Nat) : Value := .slice g.a n g.c
abbrev rB (f : FuncId) (l : List Value) (v : Value) : World → Prop := fun wz => RetB Tryz.prog f ⟨l⟩ v wz
abbrev rN (b o : Nat) (l : List Value) : World → Prop := fun wz => V.atN b o l 0 wz
abbrev rA (b o : Nat) (v : Value) : World → Prop := fun wz => V.at1 ⟨b, o, none⟩ v wz
def tyAnswer : Ty TAnswer where
  z:=4
  enc:=fun x g => [vI x.Err,vI x.Num,.slice (g 0).a x.Texts.length (g 0).c,.slice (g 1).a x.Numbers.length (g 1).c]
  inn:=fun M w x g => SlG tS M w x.Texts (g 0) ∧ SlG (tI .i64) M w x.Numbers (g 1) ∧ True
  len:=fun _ _ => rfl
  one:=fun _ _ => rfl
  kp:=fun h k hX => ⟨h.1.kp k hX,h.2.1.kp k hX,trivial⟩
  anti:=fun h hM => ⟨h.1.anti hM,h.2.1.anti hM,trivial⟩
  fresh:=fun h => ⟨h.1.fresh,h.2.1.fresh,trivial⟩
theorem tyAnswer_i0 {M : Av} {w : World} {x : TAnswer} {g : Nat → Gh} (h : tyAnswer.inn M w x g) : SlG tS M w x.Texts (g 0):=(show SlG tS M w x.Texts (g 0) ∧ SlG (tI .i64) M w x.Numbers (g 1) ∧ True from h).1
theorem tyAnswer_i1 {M : Av} {w : World} {x : TAnswer} {g : Nat → Gh} (h : tyAnswer.inn M w x g) : SlG (tI .i64) M w x.Numbers (g 1):=(show SlG tS M w x.Texts (g 0) ∧ SlG (tI .i64) M w x.Numbers (g 1) ∧ True from h).2.1
theorem tyAnswer_mk {M : Av} {w : World} {x : TAnswer} {g : Nat → Gh} (h0 : SlG tS M w x.Texts (g 0)) (h1 : SlG (tI .i64) M w x.Numbers (g 1)) : tyAnswer.inn M w x g:=show SlG tS M w x.Texts (g 0) ∧ SlG (tI .i64) M w x.Numbers (g 1) ∧ True from ⟨h0,h1,trivial⟩
theorem r40_Big_w {g_a__0 : Gh} {g_a__1 : Gh} (M : Av) (m : Nat) (a_ : TAnswer) (r : Bool) (hm : r40_Big m a_ = some r) (w : World) (hS : S0 M [eI tS a_.Texts g_a__0,eI (tI .i64) a_.Numbers g_a__1] w) : Calls Tryz.prog 12 ⟨[vG [vI a_.Err,vI a_.Num,vL g_a__0 a_.Texts,vL g_a__1 a_.Numbers]]⟩ w (fun e w' => ∃ v,e = .returned v ∧ v = vB r ∧ SH M (fpl [eI tS a_.Texts g_a__0,eI (tI .i64) a_.Numbers g_a__1]) w [] w'):=by
 rw [r40_Big] at hm
 have hS0 : SH M (fpl [eI tS a_.Texts g_a__0,eI (tI .i64) a_.Numbers g_a__1]) w [eI tS a_.Texts g_a__0,eI (tI .i64) a_.Numbers g_a__1] w:=hS
 generalize hX : fpl [eI tS a_.Texts g_a__0,eI (tI .i64) a_.Numbers g_a__1] = X at hS0 ⊢
 clear hS hX
 have hS:=hS0
 clear hS0
 refine calls_entryP Tryz.func12 rfl Tryz.ntmps12 rfl fun _ H => ?_
 apply w_seq
 apply wl_start
 have hd:=hS.hand [] [0,1] rfl rfl
 refine m_stp [1] [] H rfl rfl rfl rfl (o_box [vI a_.Err,vI a_.Num,vL g_a__0 a_.Texts,vL g_a__1 a_.Numbers] H hd rfl rfl) (fun _ => rfl) fun _ _ v H3 hq => ?_
 clear H hd
 obtain ⟨b1,rfl,hq⟩:=hq
 replace hS : SH M X w [eB b1 [vI a_.Err,vI a_.Num,vL g_a__0 a_.Texts,vL g_a__1 a_.Numbers],eI tS a_.Texts g_a__0,eI (tI .i64) a_.Numbers g_a__1] _:=hS.join [] [0,1] rfl rfl hq
 clear hq
 refine wl_batch 1 2 [] [1] [(1,[],vP b1)] [] H3 (by decide) (by kernel_rfl) trivial fun _ _ H5 hb => ?_
 replace hS:=hS.below hb
 clear H3 hb
 apply wl_end rfl
 apply w_seq
 obtain ⟨x6,hx6,hm⟩:=letE hm
 refine s_reg [(vL g_a__0 a_.Texts),(vL g_a__1 a_.Numbers)] [1,14] (fS [1,14] [vP b1,vB x6]) [rA b1 2 (vL g_a__0 a_.Texts),fun wz => ((decide (70 < (ln a_.Texts))) = false ∧ True → V.at1 ⟨b1,3,none⟩ (vL g_a__1 a_.Numbers) wz)] H5 (by subst hx6; kernel_rfl) ⟨((hS.bk 0 rfl).at1 rfl),fun hg => (hS.bk 0 rfl).at1 rfl,trivial⟩ fun _ _ H8 hb => ?_
 replace hS:=hS.below hb
 clear H5 hb
 refine w_if H8 rfl (fun hc => ?c31) (fun hc => ?_)
 case c31 =>
  replace hm:=bT hc hm
  refine s_reg [] [2] [(2,[],vT)] [] H8 (by kernel_rfl) trivial fun _ _ H10 hb => ?_
  replace hS:=hS.below hb
  clear H8 hb
  replace hS : SH M X w [] _:=hS.sel [] rfl
  apply w_ret
  obtain rfl:=someE hm
  exact retR1 H10 rfl rfl ⟨_,rfl,rfl,(hS.sel [] rfl)⟩
 replace hm:=bF hc hm
 apply w_skip
 refine s_reg [] [1,3] (fS [1,3] [vP b1,vI 0]) [] H8 (by kernel_rfl) trivial fun _ _ H12 hb => ?_
 replace hS:=hS.below hb
 clear H8 hb
 obtain ⟨z13,hz,hm⟩:=bindE hm
 refine w_cut (fun a' w' => Fr 40 [(3,[],vI z13)] a' ∧ SH M X w [eB b1 [vI a_.Err,vI a_.Num,vL g_a__0 a_.Texts,vL g_a__1 a_.Numbers],eI tS a_.Texts g_a__0,eI (tI .i64) a_.Numbers g_a__1] w') ?_ ?_
 ·replace hm:=hz
  refine s_reg [] [1,3,4] (fS [1,3,4] [vP b1,vI 0,vI 0]) [] H12 (by kernel_rfl) trivial fun _ _ H15 hb => ?_
  replace hS:=hS.below hb
  clear H12 hb
  apply w_block
  refine w_loop (fun kk a' w' => ∃ (v16 : Int) (v17 : Int),r40_Big_L1 m a_ kk v16 v17 = some _ ∧ Fr 40 (fS [1,3,4] [vP b1,vI v16,vI v17]) a' ∧ SH M X w [eB b1 [vI a_.Err,vI a_.Num,vL g_a__0 a_.Texts,vL g_a__1 a_.Numbers],eI tS a_.Texts g_a__0,eI (tI .i64) a_.Numbers g_a__1] w') ⟨_,0,0,hm,FrG.keep (ks:=[1,3,4]) H15 (by kernel_rfl),hS⟩ ?_
  clear hm H15 hS
  rintro kk _ _ ⟨v16,v17,hm,H,hS⟩
  cases kk with
  | zero => exact noneE hm
  | succ kk =>
   rw [r40_Big_L1] at hm
   apply w_seq
   refine s_reg [(vL g_a__0 a_.Texts)] [1,3,4,19] (fS [1,3,4,19] [vP b1,vI v16,vI v17,vB (decide (v17 < (ln a_.Texts)))]) [rA b1 2 (vL g_a__0 a_.Texts)] H (by kernel_rfl) ⟨((hS.bk 0 rfl).at1 rfl),trivial⟩ fun _ _ H19 hb => ?_
   replace hS:=hS.below hb
   clear H hb
   refine w_if H19 rfl (fun hc => ?_) (fun hc => ?c25)
   case c25 =>
    replace hm:=bF hc hm
    apply w_exit rfl
    obtain rfl:=someE hm
    exact ⟨FrG.keep (ks:=[3]) H19 (by kernel_rfl),hS⟩
   replace hm:=bT hc hm
   apply w_skip
   apply w_seq
   apply w_block
   obtain ⟨ho20,hm⟩:=chkE hm
   refine w_reg [(vL g_a__0 a_.Texts),(vS (gi a_.Texts v17))] [1,3,4] (fS [1,3,4] [vP b1,vI (w64 (v16 + (ln (gi a_.Texts v17)))),vI v17]) [rA b1 2 (vL g_a__0 a_.Texts),fun _ => oka g_a__0.a ∧ 0 ≤ v17 ∧ v17 < ln a_.Texts,fun wz => V.at1 ⟨ab g_a__0.a,ao g_a__0.a + (v17).toNat * 1,none⟩ (vS (gi a_.Texts v17)) wz] H19 (by kernel_rfl) ⟨((hS.bk 0 rfl).at1 rfl),((hS.im 1 rfl).oki ho20),((hS.im 1 rfl).at1 ho20 0 rfl),trivial⟩ fun _ _ H22 hb => ?_
   replace hS:=hS.below hb
   clear H19 hb
   refine w_reg [] [1,3,4] (fS [1,3,4] [vP b1,vI (w64 (v16 + (ln (gi a_.Texts v17)))),vI (w64 (v17 + 1))]) [] H22 (by kernel_rfl) trivial fun _ _ H24 hb => ?_
   replace hS:=hS.below hb
   clear H22 hb
   exact ⟨_,Nat.lt_succ_self _,w64 (v16 + (ln (gi a_.Texts v17))),w64 (v17 + 1),hm,FrG.keep (ks:=[1,3,4]) H24 (by kernel_rfl),hS⟩
 ·rintro _ _ ⟨H,hS⟩
  replace hS : SH M X w [] _:=hS.sel [] rfl
  obtain ⟨x27,hx27,hm⟩:=letE hm
  refine s_reg [] [2] [(2,[],vB (cond x27 true (decide (20100 < z13))))] [] H (by subst hx27; kernel_rfl) trivial fun _ _ H29 hb => ?_
  replace hS:=hS.below hb
  clear H hb
  apply w_ret
  obtain rfl:=someE hm
  exact retR1 H29 rfl rfl ⟨_,rfl,rfl,(hS.sel [] rfl)⟩
theorem r40_Big_ok {g_a__0 : Gh} {g_a__1 : Gh} (m : Nat) (a_ : TAnswer) (r : Bool) (hm : r40_Big m a_ = some r) (w : World) (hL : S0 F0 [eI tS a_.Texts g_a__0,eI (tI .i64) a_.Numbers g_a__1] w ∧ fpl [eI tS a_.Texts g_a__0,eI (tI .i64) a_.Numbers g_a__1] = []) : RetB Tryz.prog 12 ⟨[vG [vI a_.Err,vI a_.Num,vL g_a__0 a_.Texts,vL g_a__1 a_.Numbers]]⟩ (vB r) w:=retB_of hL (Tryz.call12 _) (fun w' h => r40_Big_w F0 m   a_ r hm w' h)

theorem r40_Great_w {g_l_ : Gh} (M : Av) (m : Nat) (l_ : List TAnswer) (r : Bool) (hm : r40_Great m l_ = some r) (w : World) (hS : S0 M [eI tyAnswer l_ g_l_] w) : Calls Tryz.prog 4 ⟨[vL g_l_ l_]⟩ w (fun e w' => ∃ v,e = .returned v ∧ v = vB r ∧ SH M (fpl [eI tyAnswer l_ g_l_]) w [] w'):=by
 rw [r40_Great] at hm
 have hS0 : SH M (fpl [eI tyAnswer l_ g_l_]) w [eI tyAnswer l_ g_l_] w:=hS
 generalize hX : fpl [eI tyAnswer l_ g_l_] = X at hS0 ⊢
 clear hS hX
 have hS:=hS0
 clear hS0
 refine calls_entryP Tryz.func4 rfl Tryz.ntmps4 rfl fun _ H => ?_
 refine s_reg [] [0] [(0,[],vL g_l_ l_)] [] H (by kernel_rfl) trivial fun _ _ H2 hb => ?_
 replace hS:=hS.below hb
 clear H hb
 apply w_seq
 obtain ⟨x3,hx3,hm⟩:=letE hm
 refine s_reg [] [0,16] (fS [0,16] [vL g_l_ l_,vB (cond x3 true (decide (65 < (ln l_))))]) [] H2 (by subst hx3; kernel_rfl) trivial fun _ _ H5 hb => ?_
 replace hS:=hS.below hb
 clear H2 hb
 refine w_if H5 rfl (fun hc => ?c28) (fun hc => ?_)
 case c28 =>
  replace hm:=bT hc hm
  refine s_reg [] [2] [(2,[],vT)] [] H5 (by kernel_rfl) trivial fun _ _ H7 hb => ?_
  replace hS:=hS.below hb
  clear H5 hb
  replace hS : SH M X w [] _:=hS.sel [] rfl
  apply w_ret
  obtain rfl:=someE hm
  exact retR1 H7 rfl rfl ⟨_,rfl,rfl,(hS.sel [] rfl)⟩
 replace hm:=bF hc hm
 apply w_skip
 obtain ⟨z8,hz,hm_z8⟩:=bindE hm
 refine w_cut (fun a' w' => ∃ s_z8 : Unit,z8 = Sum.inr s_z8 ∧ Fr 28 [] a' ∧ SH M X w [eI tyAnswer l_ g_l_] w') ?_ ?_
 ·replace hm:=hz
  refine s_reg [] [0,3] (fS [0,3] [vL g_l_ l_,vI 0]) [] H5 (by kernel_rfl) trivial fun _ _ H10 hb => ?_
  replace hS:=hS.below hb
  clear H5 hb
  apply w_block
  refine w_loop (fun kk a' w' => ∃ (v11 : Int),r40_Great_L1 m l_ kk v11 = some _ ∧ Fr 28 (fS [0,3] [vL g_l_ l_,vI v11]) a' ∧ SH M X w [eI tyAnswer l_ g_l_] w') ⟨_,0,hm,FrG.keep (ks:=[0,3]) H10 (by kernel_rfl),hS⟩ ?_
  clear hm H10 hS
  rintro kk _ _ ⟨v11,hm,H,hS⟩
  cases kk with
  | zero => exact noneE hm
  | succ kk =>
   rw [r40_Great_L1] at hm
   apply w_seq
   refine s_reg [] [0,3,20] (fS [0,3,20] [vL g_l_ l_,vI v11,vB (decide (v11 < (ln l_)))]) [] H (by kernel_rfl) trivial fun _ _ H13 hb => ?_
   replace hS:=hS.below hb
   clear H hb
   refine w_if H13 rfl (fun hc => ?_) (fun hc => ?c23)
   case c23 =>
    replace hm:=bF hc hm
    apply w_exit rfl
    obtain rfl:=someE hm
    exact ⟨_,rfl,FrG.keep (ks:=[]) H13 (by kernel_rfl),hS⟩
   replace hm:=bT hc hm
   apply w_skip
   apply w_seq
   apply w_block
   obtain ⟨ho14,hm⟩:=chkE hm
   obtain ⟨y15,hy15,hm⟩:=bindE hm
   refine s_reg [(vG [vI ((gi l_ v11).Err),vI ((gi l_ v11).Num),.slice (g_l_.s (v11).toNat 0).a (((gi l_ v11).Texts).length) (g_l_.s (v11).toNat 0).c,.slice (g_l_.s (v11).toNat 1).a (((gi l_ v11).Numbers).length) (g_l_.s (v11).toNat 1).c]),(vB y15)] [0,3,27] (fS [0,3,27] [vL g_l_ l_,vI v11,vB y15]) [fun _ => oka g_l_.a ∧ 0 ≤ v11 ∧ v11 < ln l_,fun wz => V.atN (ab g_l_.a) (ao g_l_.a + (v11).toNat * 4) [vI ((gi l_ v11).Err),vI ((gi l_ v11).Num),.slice (g_l_.s (v11).toNat 0).a (((gi l_ v11).Texts).length) (g_l_.s (v11).toNat 0).c,.slice (g_l_.s (v11).toNat 1).a (((gi l_ v11).Numbers).length) (g_l_.s (v11).toNat 1).c] 0 wz,rB 12 [vG [vI ((gi l_ v11).Err),vI ((gi l_ v11).Num),.slice (g_l_.s (v11).toNat 0).a (((gi l_ v11).Texts).length) (g_l_.s (v11).toNat 0).c,.slice (g_l_.s (v11).toNat 1).a (((gi l_ v11).Numbers).length) (g_l_.s (v11).toNat 1).c]] (vB y15)] H13 (by kernel_rfl) ⟨((hS.im 0 rfl).oki ho14),((hS.im 0 rfl).atA ho14 0 rfl),(r40_Big_ok (g_a__0:=(g_l_.s (v11).toNat 0)) (g_a__1:=(g_l_.s (v11).toNat 1)) m _ _ hy15 _ (s0im (s0im s0nil (tyAnswer_i1 ((hS.im 0 rfl).el ho14))) (tyAnswer_i0 ((hS.im 0 rfl).el ho14)))),trivial⟩ fun _ _ H17 hb => ?_
   replace hS:=hS.below hb
   clear H13 hb
   refine w_if H17 rfl (fun hc => ?_) (fun hc => ?c22)
   case c22 =>
    replace hm:=bF hc hm
    apply w_skip
    refine w_reg [] [0,3] (fS [0,3] [vL g_l_ l_,vI (w64 (v11 + 1))]) [] H17 (by kernel_rfl) trivial fun _ _ H21 hb => ?_
    replace hS:=hS.below hb
    clear H17 hb
    exact ⟨_,Nat.lt_succ_self _,w64 (v11 + 1),hm,FrG.keep (ks:=[0,3]) H21 (by kernel_rfl),hS⟩
   replace hm:=bT hc hm
   refine s_reg [] [2] [(2,[],vT)] [] H17 (by kernel_rfl) trivial fun _ _ H19 hb => ?_
   replace hS:=hS.below hb
   clear H17 hb
   apply w_ret
   obtain rfl:=someE hm
   have hm:=hm_z8
   obtain rfl:=someE hm
   exact retR1 H19 rfl rfl ⟨_,rfl,rfl,(hS.sel [] rfl)⟩
 ·rintro _ _ ⟨s_z8,hz,H,hS⟩
  subst hz
  replace hm:=sumR hm_z8
  replace hS : SH M X w [] _:=hS.sel [] rfl
  refine s_reg [] [2] [(2,[],vF)] [] H (by kernel_rfl) trivial fun _ _ H26 hb => ?_
  replace hS:=hS.below hb
  clear H hb
  apply w_ret
  obtain rfl:=someE hm
  exact retR1 H26 rfl rfl ⟨_,rfl,rfl,(hS.sel [] rfl)⟩
theorem r40_Great_ok {g_l_ : Gh} (m : Nat) (l_ : List TAnswer) (r : Bool) (hm : r40_Great m l_ = some r) (w : World) (hL : S0 F0 [eI tyAnswer l_ g_l_] w ∧ fpl [eI tyAnswer l_ g_l_] = []) : RetB Tryz.prog 4 ⟨[vL g_l_ l_]⟩ (vB r) w:=retB_of hL (Tryz.call4 _) (fun w' h => r40_Great_w F0 m   l_ r hm w' h)

theorem answer_Check_w {g_a__0 : Gh} {g_a__1 : Gh} (M : Av) (m : Nat) (a_ : TAnswer) (r : Int) (hm : answer_Check m a_ = some r) (w : World) (hS : S0 M [eI tS a_.Texts g_a__0,eI (tI .i64) a_.Numbers g_a__1] w) : Calls Tryz.prog 28 ⟨[vG [vI a_.Err,vI a_.Num,vL g_a__0 a_.Texts,vL g_a__1 a_.Numbers]]⟩ w (fun e w' => ∃ v,e = .returned v ∧ v = vI r ∧ SH M (fpl [eI tS a_.Texts g_a__0,eI (tI .i64) a_.Numbers g_a__1]) w [] w'):=by
 rw [answer_Check] at hm
 have hS0 : SH M (fpl [eI tS a_.Texts g_a__0,eI (tI .i64) a_.Numbers g_a__1]) w [eI tS a_.Texts g_a__0,eI (tI .i64) a_.Numbers g_a__1] w:=hS
 generalize hX : fpl [eI tS a_.Texts g_a__0,eI (tI .i64) a_.Numbers g_a__1] = X at hS0 ⊢
 clear hS hX
 have hS:=hS0
 clear hS0
 refine calls_entryP Tryz.func28 rfl Tryz.ntmps28 rfl fun _ H => ?_
 apply w_seq
 apply wl_start
 have hd:=hS.hand [] [0,1] rfl rfl
 refine m_stp [1] [] H rfl rfl rfl rfl (o_box [vI a_.Err,vI a_.Num,vL g_a__0 a_.Texts,vL g_a__1 a_.Numbers] H hd rfl rfl) (fun _ => rfl) fun _ _ v H3 hq => ?_
 clear H hd
 obtain ⟨b1,rfl,hq⟩:=hq
 replace hS : SH M X w [eB b1 [vI a_.Err,vI a_.Num,vL g_a__0 a_.Texts,vL g_a__1 a_.Numbers],eI tS a_.Texts g_a__0,eI (tI .i64) a_.Numbers g_a__1] _:=hS.join [] [0,1] rfl rfl hq
 clear hq
 refine wl_batch 1 2 [] [1] [(1,[],vP b1)] [] H3 (by decide) (by kernel_rfl) trivial fun _ _ H5 hb => ?_
 replace hS:=hS.below hb
 clear H3 hb
 apply wl_end rfl
 refine s_reg [] [1,3] (fS [1,3] [vP b1,vI 0]) [] H5 (by kernel_rfl) trivial fun _ _ H7 hb => ?_
 replace hS:=hS.below hb
 clear H5 hb
 obtain ⟨z8,hz,hm⟩:=bindE hm
 refine w_cut (fun a' w' => Fr 42 (fS [1,3] [vP b1,vI z8]) a' ∧ SH M X w [eB b1 [vI a_.Err,vI a_.Num,vL g_a__0 a_.Texts,vL g_a__1 a_.Numbers],eI tS a_.Texts g_a__0,eI (tI .i64) a_.Numbers g_a__1] w') ?_ ?_
 ·replace hm:=hz
  refine s_reg [(vL g_a__0 a_.Texts)] [1,3,7,8,9] (fS [1,3,7,8,9] [vP b1,vI 0,vL g_a__0 a_.Texts,vI (ln a_.Texts),vI 0]) [rA b1 2 (vL g_a__0 a_.Texts)] H7 (by kernel_rfl) ⟨((hS.bk 0 rfl).at1 rfl),trivial⟩ fun _ _ H10 hb => ?_
  replace hS:=hS.below hb
  clear H7 hb
  apply w_block
  refine w_loop (fun kk a' w' => ∃ (v11 : Int) (v12 : Int),answer_Check_L1 m a_ kk v11 v12 = some _ ∧ Fr 42 (fS [1,7,8,3,9] [vP b1,vL g_a__0 a_.Texts,vI (ln a_.Texts),vI v11,vI v12]) a' ∧ SH M X w [eB b1 [vI a_.Err,vI a_.Num,vL g_a__0 a_.Texts,vL g_a__1 a_.Numbers],eI tS a_.Texts g_a__0,eI (tI .i64) a_.Numbers g_a__1] w') ⟨_,0,0,hm,FrG.keep (ks:=[1,7,8,3,9]) H10 (by kernel_rfl),hS⟩ ?_
  clear hm H10 hS
  rintro kk _ _ ⟨v11,v12,hm,H,hS⟩
  cases kk with
  | zero => exact noneE hm
  | succ kk =>
   rw [answer_Check_L1] at hm
   refine s_reg [] [1,3,7,8,9,10] (fS [1,3,7,8,9,10] [vP b1,vI v11,vL g_a__0 a_.Texts,vI (ln a_.Texts),vI v12,vB (decide (v12 < (ln a_.Texts)))]) [] H (by kernel_rfl) trivial fun _ _ H14 hb => ?_
   replace hS:=hS.below hb
   clear H hb
   apply w_seq
   refine w_if H14 rfl (fun hc => ?_) (fun hc => ?c22)
   case c22 =>
    replace hm:=bF hc hm
    apply w_exit rfl
    obtain rfl:=someE hm
    exact ⟨FrG.keep (ks:=[1,3]) H14 (by kernel_rfl),hS⟩
   replace hm:=bT hc hm
   apply w_skip
   apply w_seq
   apply w_block
   obtain ⟨ho15,hm⟩:=chkE hm
   refine s_reg [(vS (gi a_.Texts v12))] [1,3,5,7,8,9] (fS [1,3,5,7,8,9] [vP b1,vI v11,vS (gi a_.Texts v12),vL g_a__0 a_.Texts,vI (ln a_.Texts),vI v12]) [fun _ => oka g_a__0.a ∧ 0 ≤ v12 ∧ v12 < ln a_.Texts,fun wz => V.at1 ⟨ab g_a__0.a,ao g_a__0.a + (v12).toNat * 1,none⟩ (vS (gi a_.Texts v12)) wz] H14 (by kernel_rfl) ⟨((hS.im 1 rfl).oki ho15),((hS.im 1 rfl).at1 ho15 0 rfl),trivial⟩ fun _ _ H17 hb => ?_
   replace hS:=hS.below hb
   clear H14 hb
   refine w_reg [] [1,3,7,8,9] (fS [1,3,7,8,9] [vP b1,vI (w64 (v11 + (ln (gi a_.Texts v12)))),vL g_a__0 a_.Texts,vI (ln a_.Texts),vI v12]) [] H17 (by kernel_rfl) trivial fun _ _ H19 hb => ?_
   replace hS:=hS.below hb
   clear H17 hb
   refine w_reg [] [1,3,7,8,9] (fS [1,3,7,8,9] [vP b1,vI (w64 (v11 + (ln (gi a_.Texts v12)))),vL g_a__0 a_.Texts,vI (ln a_.Texts),vI (w64 (v12 + 1))]) [] H19 (by kernel_rfl) trivial fun _ _ H21 hb => ?_
   replace hS:=hS.below hb
   clear H19 hb
   exact ⟨_,Nat.lt_succ_self _,w64 (v11 + (ln (gi a_.Texts v12))),w64 (v12 + 1),hm,FrG.keep (ks:=[1,7,8,3,9]) H21 (by kernel_rfl),hS⟩
 ·rintro _ _ ⟨H,hS⟩
  apply w_seq
  obtain ⟨x24,hx24,hm⟩:=letE hm
  obtain ⟨x25,hx25,hm⟩:=letE hm
  obtain ⟨x26,hx26,hm⟩:=letE hm
  refine s_reg [(vI a_.Err),(vI a_.Err),(vL g_a__0 a_.Texts),(vL g_a__1 a_.Numbers)] [41] [(41,[],vB x26)] [rA b1 0 (vI a_.Err),fun wz => ((decide (a_.Err < 0)) = false ∧ True → V.at1 ⟨b1,0,none⟩ (vI a_.Err) wz),fun wz => (x24 = false ∧ True → V.at1 ⟨b1,2,none⟩ (vL g_a__0 a_.Texts) wz),fun wz => ((cond x25 true (decide (20000 < z8))) = false ∧ True → V.at1 ⟨b1,3,none⟩ (vL g_a__1 a_.Numbers) wz)] H (by subst hx24 hx25 hx26; kernel_rfl) ⟨((hS.bk 0 rfl).at1 rfl),fun hg => (hS.bk 0 rfl).at1 rfl,fun hg => (hS.bk 0 rfl).at1 rfl,fun hg => (hS.bk 0 rfl).at1 rfl,trivial⟩ fun _ _ H28 hb => ?_
  replace hS:=hS.below hb
  clear H hb
  replace hS : SH M X w [] _:=hS.sel [] rfl
  refine w_if H28 rfl (fun hc => ?c33) (fun hc => ?_)
  case c33 =>
   replace hm:=bT hc hm
   refine s_reg [] [2] [(2,[],vI 8)] [] H28 (by kernel_rfl) trivial fun _ _ H30 hb => ?_
   replace hS:=hS.below hb
   clear H28 hb
   apply w_ret
   obtain rfl:=someE hm
   exact retR1 H30 rfl rfl ⟨_,rfl,rfl,(hS.sel [] rfl)⟩
  replace hm:=bF hc hm
  apply w_skip
  refine s_reg [] [2] [(2,[],vI 0)] [] H28 (by kernel_rfl) trivial fun _ _ H32 hb => ?_
  replace hS:=hS.below hb
  clear H28 hb
  apply w_ret
  obtain rfl:=someE hm
  exact retR1 H32 rfl rfl ⟨_,rfl,rfl,(hS.sel [] rfl)⟩
theorem answer_Check_ok {g_a__0 : Gh} {g_a__1 : Gh} (m : Nat) (a_ : TAnswer) (r : Int) (hm : answer_Check m a_ = some r) (w : World) (hL : S0 F0 [eI tS a_.Texts g_a__0,eI (tI .i64) a_.Numbers g_a__1] w ∧ fpl [eI tS a_.Texts g_a__0,eI (tI .i64) a_.Numbers g_a__1] = []) : RetB Tryz.prog 28 ⟨[vG [vI a_.Err,vI a_.Num,vL g_a__0 a_.Texts,vL g_a__1 a_.Numbers]]⟩ (vI r) w:=retB_of hL (Tryz.call28 _) (fun w' h => answer_Check_w F0 m   a_ r hm w' h)

theorem answer_check_w {g_l_ : Gh} (M : Av) (m : Nat) (l_ : List TAnswer) (r : Int) (hm : answer_check m l_ = some r) (w : World) (hS : S0 M [eI tyAnswer l_ g_l_] w) : Calls Tryz.prog 13 ⟨[vL g_l_ l_]⟩ w (fun e w' => ∃ v,e = .returned v ∧ v = vI r ∧ SH M (fpl [eI tyAnswer l_ g_l_]) w [] w'):=by
 rw [answer_check] at hm
 have hS0 : SH M (fpl [eI tyAnswer l_ g_l_]) w [eI tyAnswer l_ g_l_] w:=hS
 generalize hX : fpl [eI tyAnswer l_ g_l_] = X at hS0 ⊢
 clear hS hX
 have hS:=hS0
 clear hS0
 refine calls_entryP Tryz.func13 rfl Tryz.ntmps13 rfl fun _ H => ?_
 refine s_reg [] [0] [(0,[],vL g_l_ l_)] [] H (by kernel_rfl) trivial fun _ _ H2 hb => ?_
 replace hS:=hS.below hb
 clear H hb
 apply w_seq
 refine s_reg [] [0,8] (fS [0,8] [vL g_l_ l_,vB (decide (60 < (ln l_)))]) [] H2 (by kernel_rfl) trivial fun _ _ H4 hb => ?_
 replace hS:=hS.below hb
 clear H2 hb
 refine w_if H4 rfl (fun hc => ?c36) (fun hc => ?_)
 case c36 =>
  replace hm:=bT hc hm
  refine s_reg [] [2] [(2,[],vI 4)] [] H4 (by kernel_rfl) trivial fun _ _ H6 hb => ?_
  replace hS:=hS.below hb
  clear H4 hb
  replace hS : SH M X w [] _:=hS.sel [] rfl
  apply w_ret
  obtain rfl:=someE hm
  exact retR1 H6 rfl rfl ⟨_,rfl,rfl,(hS.sel [] rfl)⟩
 replace hm:=bF hc hm
 apply w_skip
 obtain ⟨z7,hz,hm_z7⟩:=bindE hm
 refine w_cut (fun a' w' => ∃ s_z7 : Unit,z7 = Sum.inr s_z7 ∧ Fr 21 [] a' ∧ SH M X w [eI tyAnswer l_ g_l_] w') ?_ ?_
 ·replace hm:=hz
  refine s_reg [] [9,10,11] (fS [9,10,11] [vL g_l_ l_,vI (ln l_),vI 0]) [] H4 (by kernel_rfl) trivial fun _ _ H9 hb => ?_
  replace hS:=hS.below hb
  clear H4 hb
  apply w_block
  refine w_loop (fun kk a' w' => ∃ (v10 : Int),answer_check_L1 m l_ kk v10 = some _ ∧ Fr 21 (fS [9,10,11] [vL g_l_ l_,vI (ln l_),vI v10]) a' ∧ SH M X w [eI tyAnswer l_ g_l_] w') ⟨_,0,hm,FrG.keep (ks:=[9,10,11]) H9 (by kernel_rfl),hS⟩ ?_
  clear hm H9 hS
  rintro kk _ _ ⟨v10,hm,H,hS⟩
  cases kk with
  | zero => exact noneE hm
  | succ kk =>
   rw [answer_check_L1] at hm
   refine s_reg [] [9,10,11,12] (fS [9,10,11,12] [vL g_l_ l_,vI (ln l_),vI v10,vB (decide (v10 < (ln l_)))]) [] H (by kernel_rfl) trivial fun _ _ H12 hb => ?_
   replace hS:=hS.below hb
   clear H hb
   apply w_seq
   refine w_if H12 rfl (fun hc => ?_) (fun hc => ?c31)
   case c31 =>
    replace hm:=bF hc hm
    apply w_exit rfl
    obtain rfl:=someE hm
    exact ⟨_,rfl,FrG.keep (ks:=[]) H12 (by kernel_rfl),hS⟩
   replace hm:=bT hc hm
   apply w_skip
   apply w_seq
   apply w_block
   apply w_seq
   apply wl_start
   obtain ⟨ho13,hm⟩:=chkE hm
   refine wl_batch 0 2 [(vG [vI ((gi l_ v10).Err),vI ((gi l_ v10).Num),.slice (g_l_.s (v10).toNat 0).a (((gi l_ v10).Texts).length) (g_l_.s (v10).toNat 0).c,.slice (g_l_.s (v10).toNat 1).a (((gi l_ v10).Numbers).length) (g_l_.s (v10).toNat 1).c])] [9,10,11,14] (fS [9,10,11,14] [vL g_l_ l_,vI (ln l_),vI v10,vG [vI ((gi l_ v10).Err),vI ((gi l_ v10).Num),.slice (g_l_.s (v10).toNat 0).a (((gi l_ v10).Texts).length) (g_l_.s (v10).toNat 0).c,.slice (g_l_.s (v10).toNat 1).a (((gi l_ v10).Numbers).length) (g_l_.s (v10).toNat 1).c]]) [fun _ => oka g_l_.a ∧ 0 ≤ v10 ∧ v10 < ln l_,fun wz => V.atN (ab g_l_.a) (ao g_l_.a + (v10).toNat * 4) [vI ((gi l_ v10).Err),vI ((gi l_ v10).Num),.slice (g_l_.s (v10).toNat 0).a (((gi l_ v10).Texts).length) (g_l_.s (v10).toNat 0).c,.slice (g_l_.s (v10).toNat 1).a (((gi l_ v10).Numbers).length) (g_l_.s (v10).toNat 1).c] 0 wz] H12 (by decide) (by kernel_rfl) ⟨((hS.im 0 rfl).oki ho13),((hS.im 0 rfl).atA ho13 0 rfl),trivial⟩ fun _ _ H15 hb => ?_
   replace hS:=hS.below hb
   clear H12 hb
   have hd:=hS.hand [] [0] rfl rfl
   refine m_stp [4,9,10,11,14] (fS [9,10,11,14] [vL g_l_ l_,vI (ln l_),vI v10,vG [vI ((gi l_ v10).Err),vI ((gi l_ v10).Num),.slice (g_l_.s (v10).toNat 0).a (((gi l_ v10).Texts).length) (g_l_.s (v10).toNat 0).c,.slice (g_l_.s (v10).toNat 1).a (((gi l_ v10).Numbers).length) (g_l_.s (v10).toNat 1).c]]) H15 rfl rfl rfl rfl (o_alloc [vI 0,vI 0,vO,vO] (z:=vG [vI 0,vI 0,vO,vO]) hd (by kernel_rfl) rfl) (fun _ => rfl) fun _ _ v H18 hq => ?_
   clear H15 hd
   obtain ⟨b16,rfl,hq⟩:=hq
   replace hS : SH M X w [eB b16 [vI 0,vI 0,vO,vO],eI tyAnswer l_ g_l_] _:=hS.join [] [0] rfl rfl hq
   clear hq
   have hd:=hS.hand [0] [1] rfl rfl
   refine m_stp0 [4,9,10,11] (fS [4,9,10,11] [vP b16,vL g_l_ l_,vI (ln l_),vI v10]) H18 rfl rfl rfl (o_store [vI ((gi l_ v10).Err),vI ((gi l_ v10).Num),.slice (g_l_.s (v10).toNat 0).a (((gi l_ v10).Texts).length) (g_l_.s (v10).toNat 0).c,.slice (g_l_.s (v10).toNat 1).a (((gi l_ v10).Numbers).length) (g_l_.s (v10).toNat 1).c] H18 hd rfl rfl (by kernel_rfl) rfl rfl rfl) rfl fun _ _ H20 hq => ?_
   clear H18 hd
   obtain ⟨_,hq⟩:=hq
   replace hS : SH M X w [eB b16 [vI ((gi l_ v10).Err),vI ((gi l_ v10).Num),.slice (g_l_.s (v10).toNat 0).a (((gi l_ v10).Texts).length) (g_l_.s (v10).toNat 0).c,.slice (g_l_.s (v10).toNat 1).a (((gi l_ v10).Numbers).length) (g_l_.s (v10).toNat 1).c],eI tyAnswer l_ g_l_] _:=hS.join [0] [1] rfl rfl hq
   clear hq
   apply wl_end rfl
   obtain ⟨y21,hy21,hm⟩:=bindE hm
   refine s_reg [(vG [vI ((gi l_ v10).Err),vI ((gi l_ v10).Num),.slice (g_l_.s (v10).toNat 0).a (((gi l_ v10).Texts).length) (g_l_.s (v10).toNat 0).c,.slice (g_l_.s (v10).toNat 1).a (((gi l_ v10).Numbers).length) (g_l_.s (v10).toNat 1).c]),(vI y21)] [5,9,10,11] (fS [5,9,10,11] [vI y21,vL g_l_ l_,vI (ln l_),vI v10]) [rN b16 0 [vI ((gi l_ v10).Err),vI ((gi l_ v10).Num),.slice (g_l_.s (v10).toNat 0).a (((gi l_ v10).Texts).length) (g_l_.s (v10).toNat 0).c,.slice (g_l_.s (v10).toNat 1).a (((gi l_ v10).Numbers).length) (g_l_.s (v10).toNat 1).c],rB 28 [vG [vI ((gi l_ v10).Err),vI ((gi l_ v10).Num),.slice (g_l_.s (v10).toNat 0).a (((gi l_ v10).Texts).length) (g_l_.s (v10).toNat 0).c,.slice (g_l_.s (v10).toNat 1).a (((gi l_ v10).Numbers).length) (g_l_.s (v10).toNat 1).c]] (vI y21)] H20 (by kernel_rfl) ⟨((hS.bk 0 rfl).atD rfl),(answer_Check_ok (g_a__0:=(g_l_.s (v10).toNat 0)) (g_a__1:=(g_l_.s (v10).toNat 1)) m _ _ hy21 _ (s0im (s0im s0nil (tyAnswer_i1 ((hS.im 1 rfl).el ho13))) (tyAnswer_i0 ((hS.im 1 rfl).el ho13)))),trivial⟩ fun _ _ H23 hb => ?_
   replace hS:=hS.below hb
   clear H20 hb
   replace hS : SH M X w [eI tyAnswer l_ g_l_] _:=hS.sel [1] rfl
   refine s_reg [] [5,9,10,11,18] (fS [5,9,10,11,18] [vI y21,vL g_l_ l_,vI (ln l_),vI v10,vB (y21 != 0)]) [] H23 (by kernel_rfl) trivial fun _ _ H25 hb => ?_
   replace hS:=hS.below hb
   clear H23 hb
   refine w_if H25 rfl (fun hc => ?_) (fun hc => ?c30)
   case c30 =>
    replace hm:=bF hc hm
    apply w_skip
    refine w_reg [] [9,10,11] (fS [9,10,11] [vL g_l_ l_,vI (ln l_),vI (w64 (v10 + 1))]) [] H25 (by kernel_rfl) trivial fun _ _ H29 hb => ?_
    replace hS:=hS.below hb
    clear H25 hb
    exact ⟨_,Nat.lt_succ_self _,w64 (v10 + 1),hm,FrG.keep (ks:=[9,10,11]) H29 (by kernel_rfl),hS⟩
   replace hm:=bT hc hm
   refine s_reg [] [2] [(2,[],vI y21)] [] H25 (by kernel_rfl) trivial fun _ _ H27 hb => ?_
   replace hS:=hS.below hb
   clear H25 hb
   apply w_ret
   obtain rfl:=someE hm
   have hm:=hm_z7
   obtain rfl:=someE hm
   exact retR1 H27 rfl rfl ⟨_,rfl,rfl,(hS.sel [] rfl)⟩
 ·rintro _ _ ⟨s_z7,hz,H,hS⟩
  subst hz
  replace hm:=sumR hm_z7
  replace hS : SH M X w [] _:=hS.sel [] rfl
  refine s_reg [] [2] [(2,[],vI 0)] [] H (by kernel_rfl) trivial fun _ _ H34 hb => ?_
  replace hS:=hS.below hb
  clear H hb
  apply w_ret
  obtain rfl:=someE hm
  exact retR1 H34 rfl rfl ⟨_,rfl,rfl,(hS.sel [] rfl)⟩
theorem answer_check_ok {g_l_ : Gh} (m : Nat) (l_ : List TAnswer) (r : Int) (hm : answer_check m l_ = some r) (w : World) (hL : S0 F0 [eI tyAnswer l_ g_l_] w ∧ fpl [eI tyAnswer l_ g_l_] = []) : RetB Tryz.prog 13 ⟨[vL g_l_ l_]⟩ (vI r) w:=retB_of hL (Tryz.call13 _) (fun w' h => answer_check_w F0 m   l_ r hm w' h)

theorem answer_quote_w  (M : Av) (m : Nat) (s : Str) (r : Str) (hm : answer_quote m s = some r) (w : World) (hS : S0 M [] w) : Calls Tryz.prog 29 ⟨[vS s]⟩ w (fun e w' => ∃ v,e = .returned v ∧ v = vS r ∧ SH M (fpl []) w [] w'):=by
 rw [answer_quote] at hm
 have hS0 : SH M (fpl []) w [] w:=hS
 generalize hX : fpl [] = X at hS0 ⊢
 clear hS hX
 have hS:=hS0
 clear hS0
 refine calls_entryP Tryz.func29 rfl Tryz.ntmps29 rfl fun _ H => ?_
 refine s_reg [] [0] [(0,[],vS s)] [] H (by kernel_rfl) trivial fun _ _ H2 hb => ?_
 replace hS:=hS.below hb
 clear H hb
 apply w_seq
 apply wl_start
 have hd:=hS.hand [] [] rfl rfl
 refine m_stp [3,0] [(0,[],vS s)] H2 rfl rfl rfl rfl (o_allocB 5 (z:=vG [vQ,vO]) hd (by kernel_rfl) rfl) (fun _ => rfl) fun _ _ v H5 hq => ?_
 clear H2 hd
 obtain ⟨b3,rfl,hq⟩:=hq
 replace hS : SH M X w [Ent.bld 48 5 b3 ([] : Str) (.nil)] _:=hS.join [] [] rfl rfl hq
 clear hq
 apply wl_end rfl
 apply w_seq
 apply wl_start
 obtain ⟨ho6,hm⟩:=chkE hm
 obtain ⟨q7,hq7,hm⟩:=letE hm
 have hd:=hS.hand [0] [] rfl rfl
 refine m_stp [6,0,3] (fS [0,3] [vS s,vP b3]) H5 rfl rfl rfl rfl (o_callx H5 rfl rfl (bld_WB (34 : Int) (show (0 : Int) ≤ 34 ∧ (34 : Int) < 256 from by decide) ho6 hd)) (fun _ => rfl) fun _ _ v H9 hq => ?_
 clear H5 hd
 obtain ⟨g10,rfl,hq⟩:=hq
 rw [← hq7] at hq
 replace hS : SH M X w [Ent.bld 48 5 b3 q7 g10] _:=hS.join [0] [] rfl rfl hq
 clear hq
 apply wl_end rfl
 obtain ⟨z11,hz,hm⟩:=bindE hm
 refine w_cut (fun a' w' => ∃ (g90 : Gh),Fr 48 [(3,[],vP b3)] a' ∧ SH M X w [Ent.bld 48 5 b3 z11 g90] w') ?_ ?_
 ·replace hm:=hz
  refine s_reg [] [0,3,8,9] (fS [0,3,8,9] [vS s,vP b3,vI (ln s),vI 0]) [] H9 (by kernel_rfl) trivial fun _ _ H13 hb => ?_
  replace hS:=hS.below hb
  clear H9 hb
  apply w_block
  refine w_loop (fun kk a' w' => ∃ (v14 : Int) (v15 : Str) (g16 : Gh),answer_quote_L1 m s kk v14 v15 = some _ ∧ Fr 48 (fS [0,3,8,9] [vS s,vP b3,vI (ln s),vI v14]) a' ∧ SH M X w [Ent.bld 48 5 b3 v15 g16] w') ⟨_,0,q7,g10,hm,FrG.keep (ks:=[0,3,8,9]) H13 (by kernel_rfl),hS⟩ ?_
  clear hm H13 hS
  rintro kk _ _ ⟨v14,v15,g16,hm,H,hS⟩
  cases kk with
  | zero => exact noneE hm
  | succ kk =>
   rw [answer_quote_L1] at hm
   refine s_reg [] [0,3,8,9,10] (fS [0,3,8,9,10] [vS s,vP b3,vI (ln s),vI v14,vB (decide (v14 < (ln s)))]) [] H (by kernel_rfl) trivial fun _ _ H18 hb => ?_
   replace hS:=hS.below hb
   clear H hb
   apply w_seq
   refine w_if H18 rfl (fun hc => ?_) (fun hc => ?c88)
   case c88 =>
    replace hm:=bF hc hm
    apply w_exit rfl
    obtain rfl:=someE hm
    exact ⟨g16,FrG.keep (ks:=[3]) H18 (by kernel_rfl),hS⟩
   replace hm:=bT hc hm
   apply w_skip
   obtain ⟨z19,hz,hm⟩:=bindE hm
   refine w_cut (fun a' w' => ∃ (g84 : Gh),Fr 48 (fS [0,3,8,9] [vS s,vP b3,vI (ln s),vI v14]) a' ∧ SH M X w [Ent.bld 48 5 b3 z19 g84] w') ?_ ?_
   ·replace hm:=hz
    apply w_block
    refine s_reg [] [0,3,4,8,9] (fS [0,3,4,8,9] [vS s,vP b3,vI v14,vI (ln s),vI v14]) [] H18 (by kernel_rfl) trivial fun _ _ H21 hb => ?_
    replace hS:=hS.below hb
    clear H18 hb
    obtain ⟨ho22,hm⟩:=chkE hm
    refine s_reg [] [0,3,5,8,9] (fS [0,3,5,8,9] [vS s,vP b3,vU (bat s v14),vI (ln s),vI v14]) [fun _ => 0 ≤ v14 ∧ v14 < ln s] H21 (by kernel_rfl) ⟨ho22,trivial⟩ fun _ _ H24 hb => ?_
    replace hS:=hS.below hb
    clear H21 hb
    apply w_block
    obtain ⟨z25,hz,hm_z25⟩:=bindE hm
    refine w_cut (fun a' w' => ∃ s_z25 : Str,z25 = Sum.inr s_z25 ∧ ∃ (g74 : Gh),Fr 48 (fS [0,3,5,8,9] [vS s,vP b3,vU (bat s v14),vI (ln s),vI v14]) a' ∧ SH M X w [Ent.bld 48 5 b3 s_z25 g74] w') ?_ ?_
    ·replace hm:=hz
     apply w_block
     apply w_seq
     apply w_block
     apply w_seq
     apply w_block
     apply w_seq
     apply w_block
     apply w_seq
     apply w_seq
     refine s_reg [] [0,3,5,8,9,15] (fS [0,3,5,8,9,15] [vS s,vP b3,vU (bat s v14),vI (ln s),vI v14,vB ((bat s v14) == 10)]) [] H24 (by kernel_rfl) trivial fun _ _ H27 hb => ?_
     replace hS:=hS.below hb
     clear H24 hb
     refine w_if H27 rfl (fun hc => ?c73) (fun hc => ?_)
     case c73 =>
      replace hm:=bT hc hm
      apply w_exit rfl
      apply w_seq
      apply wl_start
      obtain ⟨ho28,hm⟩:=chkE hm
      obtain ⟨q29,hq29,hm⟩:=letE hm
      have hd:=hS.hand [0] [] rfl rfl
      refine m_stp [32,0,3,8,9] (fS [0,3,8,9] [vS s,vP b3,vI (ln s),vI v14]) H27 rfl rfl rfl rfl (o_callx H27 rfl rfl (bld_WS [92,110] ho28 hd)) (fun _ => rfl) fun _ _ v H31 hq => ?_
      clear H27 hd
      obtain ⟨g32,rfl,hq⟩:=hq
      rw [← hq29] at hq
      replace hS : SH M X w [Ent.bld 48 5 b3 q29 g32] _:=hS.join [0] [] rfl rfl hq
      clear hq
      apply wl_end rfl
      apply w_exit rfl
      obtain ⟨r33,hr_r33,hm⟩:=bindE hm
      obtain rfl:=someE hm
      have hm:=hm_z25
      obtain rfl:=someE hm
      have hm:=hr_r33
      clear hr_r33
      obtain rfl:=someE hm
      exact ⟨g32,FrG.keep (ks:=[0,3,8,9]) H31 (by kernel_rfl),hS⟩
     replace hm:=bF hc hm
     apply w_skip
     apply w_seq
     obtain ⟨x34,hx34,hm⟩:=letE hm
     refine s_reg [] [0,3,5,8,9,18] (fS [0,3,5,8,9,18] [vS s,vP b3,vU (bat s v14),vI (ln s),vI v14,vB x34]) [] H27 (by subst hx34; kernel_rfl) trivial fun _ _ H36 hb => ?_
     replace hS:=hS.below hb
     clear H27 hb
     refine w_if H36 rfl (fun hc => ?_) (fun hc => ?c72)
     case c72 =>
      replace hm:=bF hc hm
      apply w_skip
      obtain ⟨x63,hx63,hm⟩:=letE hm
      refine s_reg [] [0,3,5,8,9,25] (fS [0,3,5,8,9,25] [vS s,vP b3,vU (bat s v14),vI (ln s),vI v14,vB x63]) [] H36 (by subst hx63; kernel_rfl) trivial fun _ _ H65 hb => ?_
      replace hS:=hS.below hb
      clear H36 hb
      refine w_if H65 rfl (fun hc => ?_) (fun hc => ?c71)
      case c71 =>
       replace hm:=bF hc hm
       apply w_skip
       apply w_exit rfl
       obtain rfl:=someE hm
       exact ⟨_,rfl,g16,FrG.keep (ks:=[0,3,5,8,9]) H65 (by kernel_rfl),hS⟩
      replace hm:=bT hc hm
      apply w_exit rfl
      apply wl_start
      obtain ⟨ho66,hm⟩:=chkE hm
      obtain ⟨q67,hq67,hm⟩:=letE hm
      have hd:=hS.hand [0] [] rfl rfl
      refine m_stp [42,0,3,5,8,9] (fS [0,3,5,8,9] [vS s,vP b3,vU (bat s v14),vI (ln s),vI v14]) H65 rfl rfl rfl rfl (o_callx H65 rfl rfl (bld_WB (92 : Int) (show (0 : Int) ≤ 92 ∧ (92 : Int) < 256 from by decide) ho66 hd)) (fun _ => rfl) fun _ _ v H69 hq => ?_
      clear H65 hd
      obtain ⟨g70,rfl,hq⟩:=hq
      rw [← hq67] at hq
      replace hS : SH M X w [Ent.bld 48 5 b3 q67 g70] _:=hS.join [0] [] rfl rfl hq
      clear hq
      apply wl_end rfl
      obtain rfl:=someE hm
      exact ⟨_,rfl,g70,FrG.keep (ks:=[0,3,5,8,9]) H69 (by kernel_rfl),hS⟩
     replace hm:=bT hc hm
     apply w_exit rfl
     apply w_seq
     apply w_seq
     apply wl_start
     obtain ⟨ho37,hm⟩:=chkE hm
     obtain ⟨q38,hq38,hm⟩:=letE hm
     have hd:=hS.hand [0] [] rfl rfl
     refine m_stp [33,0,3,5,8,9] (fS [0,3,5,8,9] [vS s,vP b3,vU (bat s v14),vI (ln s),vI v14]) H36 rfl rfl rfl rfl (o_callx H36 rfl rfl (bld_WS [92,120] ho37 hd)) (fun _ => rfl) fun _ _ v H40 hq => ?_
     clear H36 hd
     obtain ⟨g41,rfl,hq⟩:=hq
     rw [← hq38] at hq
     replace hS : SH M X w [Ent.bld 48 5 b3 q38 g41] _:=hS.join [0] [] rfl rfl hq
     clear hq
     apply wl_end rfl
     apply w_seq
     apply wl_start
     obtain ⟨ho42,hm⟩:=chkE hm
     obtain ⟨x43,hx43,hm⟩:=letE hm
     refine wl_batch 0 3 [] [0,3,5,8,9,36] (fS [0,3,5,8,9,36] [vS s,vP b3,vU (bat s v14),vI (ln s),vI v14,vU x43]) [fun _ => (0 : Int) ≤ 4,fun _ => 0 ≤ (Int.fdiv (bat s v14) (2 ^ 4)) ∧ (Int.fdiv (bat s v14) (2 ^ 4)) < ln [48,49,50,51,52,53,54,55,56,57,97,98,99,100,101,102]] H40 (by decide) (by subst hx43; kernel_rfl) ⟨(by show (0 : Int) ≤ 4; decide),ho42,trivial⟩ fun _ _ H45 hb => ?_
     replace hS:=hS.below hb
     clear H40 hb
     obtain ⟨ho46,hm⟩:=chkE hm
     obtain ⟨ho47,hm⟩:=chkE hm
     obtain ⟨q48,hq48,hm⟩:=letE hm
     have hd:=hS.hand [0] [] rfl rfl
     refine m_stp [37,0,3,5,8,9] (fS [0,3,5,8,9] [vS s,vP b3,vU (bat s v14),vI (ln s),vI v14]) H45 rfl rfl rfl rfl (o_callx H45 rfl rfl (bld_WB x43 ho46 ho47 hd)) (fun _ => rfl) fun _ _ v H50 hq => ?_
     clear H45 hd
     obtain ⟨g51,rfl,hq⟩:=hq
     rw [← hq48] at hq
     replace hS : SH M X w [Ent.bld 48 5 b3 q48 g51] _:=hS.join [0] [] rfl rfl hq
     clear hq
     apply wl_end rfl
     apply wl_start
     obtain ⟨ho52,hm⟩:=chkE hm
     obtain ⟨x53,hx53,hm⟩:=letE hm
     refine wl_batch 0 3 [] [0,3,8,9,40] (fS [0,3,8,9,40] [vS s,vP b3,vI (ln s),vI v14,vU x53]) [fun _ => 0 ≤ (ibit .and .u8 (bat s v14) 15) ∧ (ibit .and .u8 (bat s v14) 15) < ln [48,49,50,51,52,53,54,55,56,57,97,98,99,100,101,102]] H50 (by decide) (by subst hx53; kernel_rfl) ⟨ho52,trivial⟩ fun _ _ H55 hb => ?_
     replace hS:=hS.below hb
     clear H50 hb
     obtain ⟨ho56,hm⟩:=chkE hm
     obtain ⟨ho57,hm⟩:=chkE hm
     obtain ⟨q58,hq58,hm⟩:=letE hm
     have hd:=hS.hand [0] [] rfl rfl
     refine m_stp [41,0,3,8,9] (fS [0,3,8,9] [vS s,vP b3,vI (ln s),vI v14]) H55 rfl rfl rfl rfl (o_callx H55 rfl rfl (bld_WB x53 ho56 ho57 hd)) (fun _ => rfl) fun _ _ v H60 hq => ?_
     clear H55 hd
     obtain ⟨g61,rfl,hq⟩:=hq
     rw [← hq58] at hq
     replace hS : SH M X w [Ent.bld 48 5 b3 q58 g61] _:=hS.join [0] [] rfl rfl hq
     clear hq
     apply wl_end rfl
     apply w_exit rfl
     obtain ⟨r62,hr_r62,hm⟩:=bindE hm
     obtain rfl:=someE hm
     have hm:=hm_z25
     obtain rfl:=someE hm
     have hm:=hr_r62
     clear hr_r62
     obtain rfl:=someE hm
     exact ⟨g61,FrG.keep (ks:=[0,3,8,9]) H60 (by kernel_rfl),hS⟩
    ·rintro _ _ ⟨s_z25,hz,g74,H,hS⟩
     subst hz
     replace hm:=sumR hm_z25
     apply w_seq
     apply wl_start
     refine wl_batch 0 1 [] [0,3,8,9,43] (fS [0,3,8,9,43] [vS s,vP b3,vI (ln s),vI v14,vU (bat s v14)]) [] H (by decide) (by kernel_rfl) trivial fun _ _ H76 hb => ?_
     replace hS:=hS.below hb
     clear H hb
     obtain ⟨ho77,hm⟩:=chkE hm
     obtain ⟨ho78,hm⟩:=chkE hm
     obtain ⟨q79,hq79,hm⟩:=letE hm
     have hd:=hS.hand [0] [] rfl rfl
     refine m_stp [44,0,3,8,9] (fS [0,3,8,9] [vS s,vP b3,vI (ln s),vI v14]) H76 rfl rfl rfl rfl (o_callx H76 rfl rfl (bld_WB (bat s v14) ho77 ho78 hd)) (fun _ => rfl) fun _ _ v H81 hq => ?_
     clear H76 hd
     obtain ⟨g82,rfl,hq⟩:=hq
     rw [← hq79] at hq
     replace hS : SH M X w [Ent.bld 48 5 b3 q79 g82] _:=hS.join [0] [] rfl rfl hq
     clear hq
     apply wl_end rfl
     apply w_exit rfl
     obtain rfl:=someE hm
     exact ⟨g82,FrG.keep (ks:=[0,3,8,9]) H81 (by kernel_rfl),hS⟩
   ·rintro _ _ ⟨g84,H,hS⟩
    refine w_reg [] [0,3,8,9] (fS [0,3,8,9] [vS s,vP b3,vI (ln s),vI (w64 (v14 + 1))]) [] H (by kernel_rfl) trivial fun _ _ H86 hb => ?_
    replace hS:=hS.below hb
    clear H hb
    exact ⟨_,Nat.lt_succ_self _,w64 (v14 + 1),z19,g84,hm,FrG.keep (ks:=[0,3,8,9]) H86 (by kernel_rfl),hS⟩
 ·rintro _ _ ⟨g90,H,hS⟩
  apply w_seq
  apply wl_start
  obtain ⟨ho91,hm⟩:=chkE hm
  obtain ⟨q92,hq92,hm⟩:=letE hm
  have hd:=hS.hand [0] [] rfl rfl
  refine m_stp [46,3] [(3,[],vP b3)] H rfl rfl rfl rfl (o_callx H rfl rfl (bld_WB (34 : Int) (show (0 : Int) ≤ 34 ∧ (34 : Int) < 256 from by decide) ho91 hd)) (fun _ => rfl) fun _ _ v H94 hq => ?_
  clear H hd
  obtain ⟨g95,rfl,hq⟩:=hq
  rw [← hq92] at hq
  replace hS : SH M X w [Ent.bld 48 5 b3 q92 g95] _:=hS.join [0] [] rfl rfl hq
  clear hq
  apply wl_end rfl
  apply w_seq
  apply wl_start
  have hd:=hS.hand [0] [] rfl rfl
  refine m_stp [47] [] H94 rfl rfl rfl rfl (o_callx H94 rfl rfl (bld_St hd)) (fun _ => rfl) fun _ _ v H97 hq => ?_
  clear H94 hd
  obtain ⟨rfl,hq⟩:=hq
  replace hS : SH M X w [] _:=hS.join [0] [] rfl rfl hq
  clear hq
  refine wl_batch 1 2 [] [2] [(2,[],vS q92)] [] H97 (by decide) (by kernel_rfl) trivial fun _ _ H99 hb => ?_
  replace hS:=hS.below hb
  clear H97 hb
  apply wl_end rfl
  apply w_ret
  obtain rfl:=someE hm
  exact retR1 H99 rfl rfl ⟨_,rfl,rfl,(hS.sel [] rfl)⟩
theorem answer_quote_ok  (m : Nat) (s : Str) (r : Str) (hm : answer_quote m s = some r) : Ret Tryz.prog 29 ⟨[vS s]⟩ (vS r):=retP_of (Tryz.call29 _) (fun w h => answer_quote_w F0 m   s r hm w h)

theorem strings_Join_w {g_elems : Gh} (M : Av) (m : Nat) (elems : List Str) (sep : Str) (r : Str) (hm : strings_Join m elems sep = some r) (w : World) (hS : S0 M [eI tS elems g_elems] w) : Calls Tryz.prog 31 ⟨[vL g_elems elems,vS sep]⟩ w (fun e w' => ∃ v,e = .returned v ∧ v = vS r ∧ SH M (fpl [eI tS elems g_elems]) w [] w'):=by
 rw [strings_Join] at hm
 have hS0 : SH M (fpl [eI tS elems g_elems]) w [eI tS elems g_elems] w:=hS
 generalize hX : fpl [eI tS elems g_elems] = X at hS0 ⊢
 clear hS hX
 have hS:=hS0
 clear hS0
 refine calls_entryP Tryz.func31 rfl Tryz.ntmps31 rfl fun _ H => ?_
 refine s_reg [] [0,1] (fS [0,1] [vL g_elems elems,vS sep]) [] H (by kernel_rfl) trivial fun _ _ H2 hb => ?_
 replace hS:=hS.below hb
 clear H hb
 apply w_seq
 refine s_reg [] [0,1,12] (fS [0,1,12] [vL g_elems elems,vS sep,vI (ln elems)]) [] H2 (by kernel_rfl) trivial fun _ _ H4 hb => ?_
 replace hS:=hS.below hb
 clear H2 hb
 apply w_block
 refine s_reg [] [0,1,12,13] (fS [0,1,12,13] [vL g_elems elems,vS sep,vI (ln elems),vB ((ln elems) == 0)]) [] H4 (by kernel_rfl) trivial fun _ _ H6 hb => ?_
 replace hS:=hS.below hb
 clear H4 hb
 refine w_if H6 rfl (fun hc => ?c111) (fun hc => ?_)
 case c111 =>
  replace hm:=bT hc hm
  refine s_reg [] [4] [(4,[],vN)] [] H6 (by kernel_rfl) trivial fun _ _ H8 hb => ?_
  replace hS:=hS.below hb
  clear H6 hb
  replace hS : SH M X w [] _:=hS.sel [] rfl
  apply w_ret
  obtain rfl:=someE hm
  exact retR1 H8 rfl rfl ⟨_,rfl,rfl,(hS.sel [] rfl)⟩
 replace hm:=bF hc hm
 refine s_reg [] [0,1,15] (fS [0,1,15] [vL g_elems elems,vS sep,vB ((ln elems) == 1)]) [] H6 (by kernel_rfl) trivial fun _ _ H10 hb => ?_
 replace hS:=hS.below hb
 clear H6 hb
 refine w_if H10 rfl (fun hc => ?c110) (fun hc => ?_)
 case c110 =>
  replace hm:=bT hc hm
  obtain ⟨ho11,hm⟩:=chkE hm
  refine s_reg [(vS (gi elems (0 : Int)))] [4] [(4,[],vS (gi elems (0 : Int)))] [fun _ => oka g_elems.a ∧ 0 ≤ (0 : Int) ∧ (0 : Int) < ln elems,fun wz => V.at1 ⟨ab g_elems.a,ao g_elems.a + ((0 : Int)).toNat * 1,none⟩ (vS (gi elems (0 : Int))) wz] H10 (by kernel_rfl) ⟨((hS.im 0 rfl).oki ho11),((hS.im 0 rfl).at1 ho11 0 rfl),trivial⟩ fun _ _ H13 hb => ?_
  replace hS:=hS.below hb
  clear H10 hb
  replace hS : SH M X w [] _:=hS.sel [] rfl
  apply w_ret
  obtain rfl:=someE hm
  exact retR1 H13 rfl rfl ⟨_,rfl,rfl,(hS.sel [] rfl)⟩
 replace hm:=bF hc hm
 apply w_skip
 refine s_reg [] [0,1,5] (fS [0,1,5] [vL g_elems elems,vS sep,vI 0]) [] H10 (by kernel_rfl) trivial fun _ _ H15 hb => ?_
 replace hS:=hS.below hb
 clear H10 hb
 obtain ⟨z16,hz,hm⟩:=bindE hm
 refine w_cut (fun a' w' => Fr 75 (fS [0,1,5] [vL g_elems elems,vS sep,vI z16]) a' ∧ SH M X w [eI tS elems g_elems] w') ?_ ?_
 ·replace hm:=hz
  refine s_reg [] [0,1,5,22] (fS [0,1,5,22] [vL g_elems elems,vS sep,vI 0,vB (decide (0 < (ln sep)))]) [] H15 (by kernel_rfl) trivial fun _ _ H18 hb => ?_
  replace hS:=hS.below hb
  clear H15 hb
  refine w_if H18 rfl (fun hc => ?_) (fun hc => ?c27)
  case c27 =>
   replace hm:=bF hc hm
   apply w_skip
   obtain rfl:=someE hm
   exact ⟨FrG.keep (ks:=[0,1,5]) H18 (by kernel_rfl),hS⟩
  replace hm:=bT hc hm
  apply w_seq
  obtain ⟨ho19,hm⟩:=chkE hm
  obtain ⟨x20,hx20,hm⟩:=letE hm
  refine s_reg [] [0,1,5,29] (fS [0,1,5,29] [vL g_elems elems,vS sep,vI 0,vB (decide (x20 ≤ (ln sep)))]) [fun _ => (w64 ((ln elems) - 1)) ≠ 0] H18 (by subst hx20; kernel_rfl) ⟨ho19,trivial⟩ fun _ _ H22 hb => ?_
  replace hS:=hS.below hb
  clear H18 hb
  refine w_if H22 rfl (fun hc => ?c26) (fun hc => ?_)
  case c26 =>
   replace hm:=bT hc hm
   exact noneE hm
  replace hm:=bF hc hm
  apply w_skip
  obtain ⟨x23,hx23,hm⟩:=letE hm
  refine w_reg [] [0,1,5] (fS [0,1,5] [vL g_elems elems,vS sep,vI x23]) [] H22 (by subst hx23; kernel_rfl) trivial fun _ _ H25 hb => ?_
  replace hS:=hS.below hb
  clear H22 hb
  obtain rfl:=someE hm
  exact ⟨FrG.keep (ks:=[0,1,5]) H25 (by kernel_rfl),hS⟩
 ·rintro _ _ ⟨H,hS⟩
  obtain ⟨z28,hz,hm⟩:=bindE hm
  refine w_cut (fun a' w' => Fr 75 (fS [0,1,5] [vL g_elems elems,vS sep,vI z28]) a' ∧ SH M X w [eI tS elems g_elems] w') ?_ ?_
  ·replace hm:=hz
   refine s_reg [] [0,1,5,39,40,41] (fS [0,1,5,39,40,41] [vL g_elems elems,vS sep,vI z16,vL g_elems elems,vI (ln elems),vI 0]) [] H (by kernel_rfl) trivial fun _ _ H30 hb => ?_
   replace hS:=hS.below hb
   clear H hb
   apply w_block
   refine w_loop (fun kk a' w' => ∃ (v31 : Int) (v32 : Int),strings_Join_L1 m elems kk v31 v32 = some _ ∧ Fr 75 (fS [0,1,39,40,5,41] [vL g_elems elems,vS sep,vL g_elems elems,vI (ln elems),vI v31,vI v32]) a' ∧ SH M X w [eI tS elems g_elems] w') ⟨_,z16,0,hm,FrG.keep (ks:=[0,1,39,40,5,41]) H30 (by kernel_rfl),hS⟩ ?_
   clear hm H30 hS
   rintro kk _ _ ⟨v31,v32,hm,H,hS⟩
   cases kk with
   | zero => exact noneE hm
   | succ kk =>
    rw [strings_Join_L1] at hm
    refine s_reg [] [0,1,5,39,40,41,42] (fS [0,1,5,39,40,41,42] [vL g_elems elems,vS sep,vI v31,vL g_elems elems,vI (ln elems),vI v32,vB (decide (v32 < (ln elems)))]) [] H (by kernel_rfl) trivial fun _ _ H34 hb => ?_
    replace hS:=hS.below hb
    clear H hb
    apply w_seq
    refine w_if H34 rfl (fun hc => ?_) (fun hc => ?c46)
    case c46 =>
     replace hm:=bF hc hm
     apply w_exit rfl
     obtain rfl:=someE hm
     exact ⟨FrG.keep (ks:=[0,1,5]) H34 (by kernel_rfl),hS⟩
    replace hm:=bT hc hm
    apply w_skip
    apply w_seq
    apply w_block
    obtain ⟨ho35,hm⟩:=chkE hm
    refine s_reg [(vS (gi elems v32))] [0,1,5,7,39,40,41] (fS [0,1,5,7,39,40,41] [vL g_elems elems,vS sep,vI v31,vS (gi elems v32),vL g_elems elems,vI (ln elems),vI v32]) [fun _ => oka g_elems.a ∧ 0 ≤ v32 ∧ v32 < ln elems,fun wz => V.at1 ⟨ab g_elems.a,ao g_elems.a + (v32).toNat * 1,none⟩ (vS (gi elems v32)) wz] H34 (by kernel_rfl) ⟨((hS.im 0 rfl).oki ho35),((hS.im 0 rfl).at1 ho35 0 rfl),trivial⟩ fun _ _ H37 hb => ?_
    replace hS:=hS.below hb
    clear H34 hb
    apply w_seq
    obtain ⟨x38,hx38,hm⟩:=letE hm
    refine s_reg [] [0,1,5,7,39,40,41,49] (fS [0,1,5,7,39,40,41,49] [vL g_elems elems,vS sep,vI v31,vS (gi elems v32),vL g_elems elems,vI (ln elems),vI v32,vB x38]) [] H37 (by subst hx38; kernel_rfl) trivial fun _ _ H40 hb => ?_
    replace hS:=hS.below hb
    clear H37 hb
    refine w_if H40 rfl (fun hc => ?c45) (fun hc => ?_)
    case c45 =>
     replace hm:=bT hc hm
     exact noneE hm
    replace hm:=bF hc hm
    apply w_skip
    refine w_reg [] [0,1,5,39,40,41] (fS [0,1,5,39,40,41] [vL g_elems elems,vS sep,vI (w64 (v31 + (ln (gi elems v32)))),vL g_elems elems,vI (ln elems),vI v32]) [] H40 (by kernel_rfl) trivial fun _ _ H42 hb => ?_
    replace hS:=hS.below hb
    clear H40 hb
    refine w_reg [] [0,1,5,39,40,41] (fS [0,1,5,39,40,41] [vL g_elems elems,vS sep,vI (w64 (v31 + (ln (gi elems v32)))),vL g_elems elems,vI (ln elems),vI (w64 (v32 + 1))]) [] H42 (by kernel_rfl) trivial fun _ _ H44 hb => ?_
    replace hS:=hS.below hb
    clear H42 hb
    exact ⟨_,Nat.lt_succ_self _,w64 (v31 + (ln (gi elems v32))),w64 (v32 + 1),hm,FrG.keep (ks:=[0,1,39,40,5,41]) H44 (by kernel_rfl),hS⟩
  ·rintro _ _ ⟨H,hS⟩
   apply w_seq
   apply wl_start
   have hd:=hS.hand [] [0] rfl rfl
   refine m_stp [8,0,1,5] (fS [0,1,5] [vL g_elems elems,vS sep,vI z28]) H rfl rfl rfl rfl (o_allocB 5 (z:=vG [vQ,vO]) hd (by kernel_rfl) rfl) (fun _ => rfl) fun _ _ v H50 hq => ?_
   clear H hd
   obtain ⟨b48,rfl,hq⟩:=hq
   replace hS : SH M X w [Ent.bld 48 5 b48 ([] : Str) (.nil),eI tS elems g_elems] _:=hS.join [] [0] rfl rfl hq
   clear hq
   apply wl_end rfl
   apply w_seq
   apply wl_start
   refine wl_batch 0 1 [] [0,1,8,56] (fS [0,1,8,56] [vL g_elems elems,vS sep,vP b48,vI z28]) [] H50 (by decide) (by kernel_rfl) trivial fun _ _ H52 hb => ?_
   replace hS:=hS.below hb
   clear H50 hb
   obtain ⟨ho53,hm⟩:=chkE hm
   have hd:=hS.hand [0] [1] rfl rfl
   refine m_stp [57,0,1,8] (fS [0,1,8] [vL g_elems elems,vS sep,vP b48]) H52 rfl rfl rfl rfl (o_callx H52 rfl rfl (bld_Gr z28 ho53 hd)) (fun _ => rfl) fun _ _ v H55 hq => ?_
   clear H52 hd
   obtain ⟨g56,rfl,hq⟩:=hq
   replace hS : SH M X w [Ent.bld 48 5 b48 ([] : Str) g56,eI tS elems g_elems] _:=hS.join [0] [1] rfl rfl hq
   clear hq
   apply wl_end rfl
   apply w_seq
   apply wl_start
   obtain ⟨ho57,hm⟩:=chkE hm
   refine wl_batch 0 3 [(vS (gi elems (0 : Int)))] [0,1,8,60] (fS [0,1,8,60] [vL g_elems elems,vS sep,vP b48,vS (gi elems (0 : Int))]) [fun _ => oka g_elems.a ∧ 0 ≤ (0 : Int) ∧ (0 : Int) < ln elems,fun wz => V.at1 ⟨ab g_elems.a,ao g_elems.a + ((0 : Int)).toNat * 1,none⟩ (vS (gi elems (0 : Int))) wz] H55 (by decide) (by kernel_rfl) ⟨((hS.im 1 rfl).oki ho57),((hS.im 1 rfl).at1 ho57 0 rfl),trivial⟩ fun _ _ H59 hb => ?_
   replace hS:=hS.below hb
   clear H55 hb
   obtain ⟨ho60,hm⟩:=chkE hm
   obtain ⟨q61,hq61,hm⟩:=letE hm
   have hd:=hS.hand [0] [1] rfl rfl
   refine m_stp [61,0,1,8] (fS [0,1,8] [vL g_elems elems,vS sep,vP b48]) H59 rfl rfl rfl rfl (o_callx H59 rfl rfl (bld_WS (gi elems (0 : Int)) ho60 hd)) (fun _ => rfl) fun _ _ v H63 hq => ?_
   clear H59 hd
   obtain ⟨g64,rfl,hq⟩:=hq
   rw [← hq61] at hq
   replace hS : SH M X w [Ent.bld 48 5 b48 q61 g64,eI tS elems g_elems] _:=hS.join [0] [1] rfl rfl hq
   clear hq
   apply wl_end rfl
   obtain ⟨z65,hz,hm⟩:=bindE hm
   refine w_cut (fun a' w' => ∃ (g102 : Gh),Fr 75 [(8,[],vP b48)] a' ∧ SH M X w [Ent.bld 48 5 b48 z65 g102,eI tS elems g_elems] w') ?_ ?_
   ·replace hm:=hz
    apply w_seq
    apply wl_start
    refine wl_batch 0 1 [] [1,8,62] (fS [1,8,62] [vS sep,vP b48,vL g_elems elems]) [] H63 (by decide) (by kernel_rfl) trivial fun _ _ H67 hb => ?_
    replace hS:=hS.below hb
    clear H63 hb
    obtain ⟨ho68,hm⟩:=chkE hm
    obtain ⟨q69,hq69,hm⟩:=letE hm
    have hd:=hS.hand [1] [0,1] rfl rfl
    refine m_stp [63,1,8] (fS [1,8] [vS sep,vP b48]) H67 rfl rfl rfl rfl (o_sub (T:=tS) (E:=9) (g:=g_elems) (q:=elems) (1 : Int) (ln elems) (.some (vI 1)) .none H67 hd (hd.im 0 rfl) rfl rfl rfl rfl rfl rfl (.inr ⟨_,rfl⟩) (.inl ⟨rfl,rfl⟩) (by kernel_rfl) (by kernel_rfl) ho68) (fun _ => rfl) fun _ _ v H71 hq => ?_
    clear H67 hd
    obtain ⟨g72,rfl,hq⟩:=hq
    rw [← hq69] at hq
    rw [← hq69] at H71
    replace hS : SH M X w [eI tS q69 g72,eI tS elems g_elems,Ent.bld 48 5 b48 q61 g64,eI tS elems g_elems] _:=hS.join [1] [0,1] rfl rfl hq
    clear hq
    refine wl_batch 2 4 [] [1,8,63,64,65] (fS [1,8,63,64,65] [vS sep,vP b48,vL g72 q69,vI (ln q69),vI 0]) [] H71 (by decide) (by kernel_rfl) trivial fun _ _ H75 hb => ?_
    replace hS:=hS.below hb
    clear H71 hb
    apply wl_end rfl
    replace hS : SH M X w [eI tS q69 g72,eI tS elems g_elems,Ent.bld 48 5 b48 q61 g64] _:=hS.sel [0,1,2] rfl
    apply w_block
    refine w_loop (fun kk a' w' => ∃ (v76 : Int) (v77 : Str) (g78 : Gh),strings_Join_L2 m sep q69 kk v76 v77 = some _ ∧ Fr 75 (fS [1,8,63,64,65] [vS sep,vP b48,vL g72 q69,vI (ln q69),vI v76]) a' ∧ SH M X w [eI tS q69 g72,eI tS elems g_elems,Ent.bld 48 5 b48 v77 g78] w') ⟨_,0,q61,g64,hm,FrG.keep (ks:=[1,8,63,64,65]) H75 (by kernel_rfl),hS⟩ ?_
    clear hm H75 hS
    rintro kk _ _ ⟨v76,v77,g78,hm,H,hS⟩
    cases kk with
    | zero => exact noneE hm
    | succ kk =>
     rw [strings_Join_L2] at hm
     refine s_reg [] [1,8,63,64,65,66] (fS [1,8,63,64,65,66] [vS sep,vP b48,vL g72 q69,vI (ln q69),vI v76,vB (decide (v76 < (ln q69)))]) [] H (by kernel_rfl) trivial fun _ _ H80 hb => ?_
     replace hS:=hS.below hb
     clear H hb
     apply w_seq
     refine w_if H80 rfl (fun hc => ?_) (fun hc => ?c100)
     case c100 =>
      replace hm:=bF hc hm
      apply w_exit rfl
      obtain rfl:=someE hm
      replace hS : SH M X w [Ent.bld 48 5 b48 v77 g78,eI tS elems g_elems] _:=hS.sel [2,1] rfl
      exact ⟨g78,FrG.keep (ks:=[8]) H80 (by kernel_rfl),hS⟩
     replace hm:=bT hc hm
     apply w_skip
     apply w_seq
     apply w_block
     obtain ⟨ho81,hm⟩:=chkE hm
     refine s_reg [(vS (gi q69 v76))] [1,8,10,63,64,65] (fS [1,8,10,63,64,65] [vS sep,vP b48,vS (gi q69 v76),vL g72 q69,vI (ln q69),vI v76]) [fun _ => oka g72.a ∧ 0 ≤ v76 ∧ v76 < ln q69,fun wz => V.at1 ⟨ab g72.a,ao g72.a + (v76).toNat * 1,none⟩ (vS (gi q69 v76)) wz] H80 (by kernel_rfl) ⟨((hS.im 0 rfl).oki ho81),((hS.im 0 rfl).at1 ho81 0 rfl),trivial⟩ fun _ _ H83 hb => ?_
     replace hS:=hS.below hb
     clear H80 hb
     apply w_seq
     apply wl_start
     refine wl_batch 0 1 [] [1,8,10,63,64,65,69] (fS [1,8,10,63,64,65,69] [vS sep,vP b48,vS (gi q69 v76),vL g72 q69,vI (ln q69),vI v76,vS sep]) [] H83 (by decide) (by kernel_rfl) trivial fun _ _ H85 hb => ?_
     replace hS:=hS.below hb
     clear H83 hb
     obtain ⟨ho86,hm⟩:=chkE hm
     obtain ⟨q87,hq87,hm⟩:=letE hm
     have hd:=hS.hand [2] [0,1] rfl rfl
     refine m_stp [70,1,8,10,63,64,65] (fS [1,8,10,63,64,65] [vS sep,vP b48,vS (gi q69 v76),vL g72 q69,vI (ln q69),vI v76]) H85 rfl rfl rfl rfl (o_callx H85 rfl rfl (bld_WS sep ho86 hd)) (fun _ => rfl) fun _ _ v H89 hq => ?_
     clear H85 hd
     obtain ⟨g90,rfl,hq⟩:=hq
     rw [← hq87] at hq
     replace hS : SH M X w [Ent.bld 48 5 b48 q87 g90,eI tS q69 g72,eI tS elems g_elems] _:=hS.join [2] [0,1] rfl rfl hq
     clear hq
     apply wl_end rfl
     apply wl_start
     refine wl_batch 0 1 [] [1,8,63,64,65,71] (fS [1,8,63,64,65,71] [vS sep,vP b48,vL g72 q69,vI (ln q69),vI v76,vS (gi q69 v76)]) [] H89 (by decide) (by kernel_rfl) trivial fun _ _ H92 hb => ?_
     replace hS:=hS.below hb
     clear H89 hb
     obtain ⟨ho93,hm⟩:=chkE hm
     obtain ⟨q94,hq94,hm⟩:=letE hm
     have hd:=hS.hand [0] [1,2] rfl rfl
     refine m_stp [72,1,8,63,64,65] (fS [1,8,63,64,65] [vS sep,vP b48,vL g72 q69,vI (ln q69),vI v76]) H92 rfl rfl rfl rfl (o_callx H92 rfl rfl (bld_WS (gi q69 v76) ho93 hd)) (fun _ => rfl) fun _ _ v H96 hq => ?_
     clear H92 hd
     obtain ⟨g97,rfl,hq⟩:=hq
     rw [← hq94] at hq
     replace hS : SH M X w [Ent.bld 48 5 b48 q94 g97,eI tS q69 g72,eI tS elems g_elems] _:=hS.join [0] [1,2] rfl rfl hq
     clear hq
     apply wl_end rfl
     refine w_reg [] [1,8,63,64,65] (fS [1,8,63,64,65] [vS sep,vP b48,vL g72 q69,vI (ln q69),vI (w64 (v76 + 1))]) [] H96 (by kernel_rfl) trivial fun _ _ H99 hb => ?_
     replace hS:=hS.below hb
     clear H96 hb
     replace hS : SH M X w [eI tS q69 g72,eI tS elems g_elems,Ent.bld 48 5 b48 q94 g97] _:=hS.sel [1,2,0] rfl
     exact ⟨_,Nat.lt_succ_self _,w64 (v76 + 1),q94,g97,hm,FrG.keep (ks:=[1,8,63,64,65]) H99 (by kernel_rfl),hS⟩
   ·rintro _ _ ⟨g102,H,hS⟩
    replace hS : SH M X w [Ent.bld 48 5 b48 z65 g102] _:=hS.sel [0] rfl
    apply w_seq
    apply wl_start
    have hd:=hS.hand [0] [] rfl rfl
    refine m_stp [74] [] H rfl rfl rfl rfl (o_callx H rfl rfl (bld_St hd)) (fun _ => rfl) fun _ _ v H104 hq => ?_
    clear H hd
    obtain ⟨rfl,hq⟩:=hq
    replace hS : SH M X w [] _:=hS.join [0] [] rfl rfl hq
    clear hq
    refine wl_batch 1 2 [] [4] [(4,[],vS z65)] [] H104 (by decide) (by kernel_rfl) trivial fun _ _ H106 hb => ?_
    replace hS:=hS.below hb
    clear H104 hb
    apply wl_end rfl
    apply w_ret
    obtain rfl:=someE hm
    exact retR1 H106 rfl rfl ⟨_,rfl,rfl,(hS.sel [] rfl)⟩
theorem strings_Join_ok {g_elems : Gh} (m : Nat) (elems : List Str) (sep : Str) (r : Str) (hm : strings_Join m elems sep = some r) (w : World) (hL : S0 F0 [eI tS elems g_elems] w ∧ fpl [eI tS elems g_elems] = []) : RetB Tryz.prog 31 ⟨[vL g_elems elems,vS sep]⟩ (vS r) w:=retB_of hL (Tryz.call31 _) (fun w' h => strings_Join_w F0 m   elems sep r hm w' h)

theorem answer_list_w {g_l_ : Gh} (M : Av) (m : Nat) (l_ : List Str) (r : Str) (hm : answer_list m l_ = some r) (w : World) (hS : S0 M [eI tS l_ g_l_] w) : Calls Tryz.prog 32 ⟨[vL g_l_ l_]⟩ w (fun e w' => ∃ v,e = .returned v ∧ v = vS r ∧ SH M (fpl [eI tS l_ g_l_]) w [] w'):=by
 rw [answer_list] at hm
 have hS0 : SH M (fpl [eI tS l_ g_l_]) w [eI tS l_ g_l_] w:=hS
 generalize hX : fpl [eI tS l_ g_l_] = X at hS0 ⊢
 clear hS hX
 have hS:=hS0
 clear hS0
 refine calls_entryP Tryz.func32 rfl Tryz.ntmps32 rfl fun _ H => ?_
 refine s_reg [] [0] [(0,[],vL g_l_ l_)] [] H (by kernel_rfl) trivial fun _ _ H2 hb => ?_
 replace hS:=hS.below hb
 clear H hb
 obtain ⟨y3,hy3,hm⟩:=bindE hm
 obtain ⟨ho4,hm⟩:=chkE hm
 obtain ⟨ho5,hm⟩:=chkE hm
 refine s_reg [(vS y3)] [2] [(2,[],vS (([91] ++ y3) ++ [93]))] [rB 31 [vL g_l_ l_,vS [44,32]] (vS y3),fun _ => ln [91] + ln y3 ≤ 9223372036854775807,fun _ => ln ([91] ++ y3) + ln [93] ≤ 9223372036854775807] H2 (by kernel_rfl) ⟨(strings_Join_ok (g_elems:=g_l_) m _ _ _ hy3 _ (s0im s0nil (hS.im 0 rfl))),ho4,ho5,trivial⟩ fun _ _ H7 hb => ?_
 replace hS:=hS.below hb
 clear H2 hb
 replace hS : SH M X w [] _:=hS.sel [] rfl
 apply w_ret
 obtain rfl:=someE hm
 exact retR1 H7 rfl rfl ⟨_,rfl,rfl,(hS.sel [] rfl)⟩
theorem answer_list_ok {g_l_ : Gh} (m : Nat) (l_ : List Str) (r : Str) (hm : answer_list m l_ = some r) (w : World) (hL : S0 F0 [eI tS l_ g_l_] w ∧ fpl [eI tS l_ g_l_] = []) : RetB Tryz.prog 32 ⟨[vL g_l_ l_]⟩ (vS r) w:=retB_of hL (Tryz.call32 _) (fun w' h => answer_list_w F0 m   l_ r hm w' h)

theorem answer_Line_w {g_a__0 : Gh} {g_a__1 : Gh} (M : Av) (m : Nat) (a_ : TAnswer) (r : Str × Int) (hm : answer_Line m a_ = some r) (w : World) (hS : S0 M [eI tS a_.Texts g_a__0,eI (tI .i64) a_.Numbers g_a__1,Ent.tab 1 (Lib.pow10Tab.map fun z => Value.int .u64 z)] w) : Calls Tryz.prog 14 ⟨[vG [vI a_.Err,vI a_.Num,vL g_a__0 a_.Texts,vL g_a__1 a_.Numbers]]⟩ w (fun e w' => ∃ v,e = .returned v ∧ v = vW [vS r.1,vI r.2] ∧ SH M (fpl [eI tS a_.Texts g_a__0,eI (tI .i64) a_.Numbers g_a__1,Ent.tab 1 (Lib.pow10Tab.map fun z => Value.int .u64 z)]) w [] w'):=by
 rw [answer_Line] at hm
 have hS0 : SH M (fpl [eI tS a_.Texts g_a__0,eI (tI .i64) a_.Numbers g_a__1,Ent.tab 1 (Lib.pow10Tab.map fun z => Value.int .u64 z)]) w [eI tS a_.Texts g_a__0,eI (tI .i64) a_.Numbers g_a__1,Ent.tab 1 (Lib.pow10Tab.map fun z => Value.int .u64 z)] w:=hS
 generalize hX : fpl [eI tS a_.Texts g_a__0,eI (tI .i64) a_.Numbers g_a__1,Ent.tab 1 (Lib.pow10Tab.map fun z => Value.int .u64 z)] = X at hS0 ⊢
 clear hS hX
 have hS:=hS0
 clear hS0
 refine calls_entryP Tryz.func14 rfl Tryz.ntmps14 rfl fun _ H => ?_
 apply w_seq
 apply wl_start
 have hd:=hS.hand [] [0,1,2] rfl rfl
 refine m_stp [1] [] H rfl rfl rfl rfl (o_box [vI a_.Err,vI a_.Num,vL g_a__0 a_.Texts,vL g_a__1 a_.Numbers] H hd rfl rfl) (fun _ => rfl) fun _ _ v H3 hq => ?_
 clear H hd
 obtain ⟨b1,rfl,hq⟩:=hq
 replace hS : SH M X w [eB b1 [vI a_.Err,vI a_.Num,vL g_a__0 a_.Texts,vL g_a__1 a_.Numbers],eI tS a_.Texts g_a__0,eI (tI .i64) a_.Numbers g_a__1,Ent.tab 1 (Lib.pow10Tab.map fun z => Value.int .u64 z)] _:=hS.join [] [0,1,2] rfl rfl hq
 clear hq
 refine wl_batch 1 3 [] [1] [(1,[],vP b1)] [] H3 (by decide) (by kernel_rfl) trivial fun _ _ H5 hb => ?_
 replace hS:=hS.below hb
 clear H3 hb
 apply wl_end rfl
 apply w_seq
 obtain ⟨y6,hy6,hm⟩:=bindE hm
 refine s_reg [(vG [vI a_.Err,vI a_.Num,vL g_a__0 a_.Texts,vL g_a__1 a_.Numbers]),(vI y6)] [1,4] (fS [1,4] [vP b1,vI y6]) [rN b1 0 [vI a_.Err,vI a_.Num,vL g_a__0 a_.Texts,vL g_a__1 a_.Numbers],rB 28 [vG [vI a_.Err,vI a_.Num,vL g_a__0 a_.Texts,vL g_a__1 a_.Numbers]] (vI y6)] H5 (by kernel_rfl) ⟨((hS.bk 0 rfl).atD rfl),(answer_Check_ok (g_a__0:=g_a__0) (g_a__1:=g_a__1) m _ _ hy6 _ (s0im (s0im s0nil (hS.im 2 rfl)) (hS.im 1 rfl))),trivial⟩ fun _ _ H8 hb => ?_
 replace hS:=hS.below hb
 clear H5 hb
 refine s_reg [] [1,4,14] (fS [1,4,14] [vP b1,vI y6,vB (y6 != 0)]) [] H8 (by kernel_rfl) trivial fun _ _ H10 hb => ?_
 replace hS:=hS.below hb
 clear H8 hb
 refine w_if H10 rfl (fun hc => ?c93) (fun hc => ?_)
 case c93 =>
  replace hm:=bT hc hm
  refine s_reg [] [2,3] (fS [2,3] [vN,vI y6]) [] H10 (by kernel_rfl) trivial fun _ _ H12 hb => ?_
  replace hS:=hS.below hb
  clear H10 hb
  replace hS : SH M X w [Ent.tab 1 (Lib.pow10Tab.map fun z => Value.int .u64 z)] _:=hS.sel [3] rfl
  apply w_ret
  obtain rfl:=someE hm
  exact retR2 H12 rfl rfl rfl ⟨_,rfl,rfl,(hS.sel [] rfl)⟩
 replace hm:=bF hc hm
 apply w_skip
 refine s_reg [] [1,5,6] (fS [1,5,6] [vP b1,vO,vO]) [] H10 (by kernel_rfl) trivial fun _ _ H14 hb => ?_
 replace hS:=hS.below hb
 clear H10 hb
 obtain ⟨z15,hz,hm⟩:=bindE hm
 refine w_cut (fun a' w' => ∃ (g45 : Gh),Fr 54 (fS [1,6,5] [vP b1,vO,vL g45 z15]) a' ∧ SH M X w [eO 9 tS z15 g45,eB b1 [vI a_.Err,vI a_.Num,vL g_a__0 a_.Texts,vL g_a__1 a_.Numbers],eI tS a_.Texts g_a__0,eI (tI .i64) a_.Numbers g_a__1,Ent.tab 1 (Lib.pow10Tab.map fun z => Value.int .u64 z)] w') ?_ ?_
 ·replace hm:=hz
  refine s_reg [(vL g_a__0 a_.Texts)] [1,5,6,17,18,19] (fS [1,5,6,17,18,19] [vP b1,vO,vO,vL g_a__0 a_.Texts,vI (ln a_.Texts),vI 0]) [rA b1 2 (vL g_a__0 a_.Texts)] H14 (by kernel_rfl) ⟨((hS.bk 0 rfl).at1 rfl),trivial⟩ fun _ _ H17 hb => ?_
  replace hS:=hS.below hb
  clear H14 hb
  apply w_block
  replace hS : SH M X w [eO 9 tS ([] : List Str) (.nil),eB b1 [vI a_.Err,vI a_.Num,vL g_a__0 a_.Texts,vL g_a__1 a_.Numbers],eI tS a_.Texts g_a__0,eI (tI .i64) a_.Numbers g_a__1,Ent.tab 1 (Lib.pow10Tab.map fun z => Value.int .u64 z)] _:=hS.addNil 9 tS
  refine w_loop (fun kk a' w' => ∃ (v19 : List Str) (v21 : Int) (g20 : Gh),answer_Line_L1 m a_ kk v19 v21 = some _ ∧ Fr 54 (fS [1,6,17,18,5,19] [vP b1,vO,vL g_a__0 a_.Texts,vI (ln a_.Texts),vL g20 v19,vI v21]) a' ∧ SH M X w [eO 9 tS v19 g20,eB b1 [vI a_.Err,vI a_.Num,vL g_a__0 a_.Texts,vL g_a__1 a_.Numbers],eI tS a_.Texts g_a__0,eI (tI .i64) a_.Numbers g_a__1,Ent.tab 1 (Lib.pow10Tab.map fun z => Value.int .u64 z)] w') ⟨_,([] : List Str),0,Gh.nil,hm,FrG.keep (ks:=[1,6,17,18,5,19]) H17 (by kernel_rfl),hS⟩ ?_
  clear hm H17 hS
  rintro kk _ _ ⟨v19,v21,g20,hm,H,hS⟩
  cases kk with
  | zero => exact noneE hm
  | succ kk =>
   rw [answer_Line_L1] at hm
   refine s_reg [] [1,5,6,17,18,19,20] (fS [1,5,6,17,18,19,20] [vP b1,vL g20 v19,vO,vL g_a__0 a_.Texts,vI (ln a_.Texts),vI v21,vB (decide (v21 < (ln a_.Texts)))]) [] H (by kernel_rfl) trivial fun _ _ H23 hb => ?_
   replace hS:=hS.below hb
   clear H hb
   apply w_seq
   refine w_if H23 rfl (fun hc => ?_) (fun hc => ?c43)
   case c43 =>
    replace hm:=bF hc hm
    apply w_exit rfl
    obtain rfl:=someE hm
    exact ⟨g20,FrG.keep (ks:=[1,6,5]) H23 (by kernel_rfl),hS⟩
   replace hm:=bT hc hm
   apply w_skip
   apply w_seq
   apply w_block
   obtain ⟨ho24,hm⟩:=chkE hm
   refine s_reg [(vS (gi a_.Texts v21))] [1,5,6,8,17,18,19] (fS [1,5,6,8,17,18,19] [vP b1,vL g20 v19,vO,vS (gi a_.Texts v21),vL g_a__0 a_.Texts,vI (ln a_.Texts),vI v21]) [fun _ => oka g_a__0.a ∧ 0 ≤ v21 ∧ v21 < ln a_.Texts,fun wz => V.at1 ⟨ab g_a__0.a,ao g_a__0.a + (v21).toNat * 1,none⟩ (vS (gi a_.Texts v21)) wz] H23 (by kernel_rfl) ⟨((hS.im 2 rfl).oki ho24),((hS.im 2 rfl).at1 ho24 0 rfl),trivial⟩ fun _ _ H26 hb => ?_
   replace hS:=hS.below hb
   clear H23 hb
   apply wl_start
   obtain ⟨y27,hy27,hm⟩:=bindE hm
   refine wl_batch 0 3 [(vS y27)] [1,6,17,18,19,23,25] (fS [1,6,17,18,19,23,25] [vP b1,vO,vL g_a__0 a_.Texts,vI (ln a_.Texts),vI v21,vL g20 v19,vS y27]) [rB 29 [vS (gi a_.Texts v21)] (vS y27)] H26 (by decide) (by kernel_rfl) ⟨((answer_quote_ok m _ _ hy27).b),trivial⟩ fun _ _ H29 hb => ?_
   replace hS:=hS.below hb
   clear H26 hb
   have hd:=hS.hand [] [0,1,2,3,4] rfl rfl
   refine m_stp [26,1,6,17,18,19,23] (fS [1,6,17,18,19,23] [vP b1,vO,vL g_a__0 a_.Texts,vI (ln a_.Texts),vI v21,vL g20 v19]) H29 rfl rfl rfl rfl (o_lit (T:=tS) (E:=9) (zv:=vN) [vS y27] ([y27] : List Str) [gL []] _ H29 hd rfl (by kernel_rfl) (by kernel_rfl) (by kernel_rfl) (by kernel_rfl) (by kernel_rfl) (by kernel_rfl) (by kernel_rfl) rfl (InnL.cons trivial InnL.nil)) (fun _ => rfl) fun _ _ v H33 hq => ?_
   clear H29 hd
   obtain ⟨g30,rfl,hq⟩:=hq
   replace hS : SH M X w [eO 9 tS ([y27] : List Str) g30,eO 9 tS v19 g20,eB b1 [vI a_.Err,vI a_.Num,vL g_a__0 a_.Texts,vL g_a__1 a_.Numbers],eI tS a_.Texts g_a__0,eI (tI .i64) a_.Numbers g_a__1,Ent.tab 1 (Lib.pow10Tab.map fun z => Value.int .u64 z)] _:=hS.join [] [0,1,2,3,4] rfl rfl hq
   clear hq
   obtain ⟨ho34,hm⟩:=chkE hm
   obtain ⟨q35,hq35,hm⟩:=letE hm
   have hd:=hS.hand [1,0] [2,3,4,5] rfl rfl
   refine m_stp [27,1,6,17,18,19] (fS [1,6,17,18,19] [vP b1,vO,vL g_a__0 a_.Texts,vI (ln a_.Texts),vI v21]) H33 rfl rfl rfl rfl (o_app2 (T:=tS) (zv:=vN) (g1:=g20) (g2:=g30) (l1:=v19) (l2:=([y27] : List Str)) q35 hq35.symm H33 hd rfl rfl rfl rfl rfl rfl rfl (by kernel_rfl) (by kernel_rfl) rfl rfl ho34) (fun _ => rfl) fun _ _ v H37 hq => ?_
   clear H33 hd
   obtain ⟨g38,rfl,hq⟩:=hq
   replace hS : SH M X w [eO 9 tS q35 g38,eO 9 tS ([y27] : List Str) g30,eB b1 [vI a_.Err,vI a_.Num,vL g_a__0 a_.Texts,vL g_a__1 a_.Numbers],eI tS a_.Texts g_a__0,eI (tI .i64) a_.Numbers g_a__1,Ent.tab 1 (Lib.pow10Tab.map fun z => Value.int .u64 z)] _:=hS.join [1,0] [2,3,4,5] rfl rfl hq
   clear hq
   refine wl_batch 5 6 [] [1,5,6,17,18,19] (fS [1,5,6,17,18,19] [vP b1,vL g38 q35,vO,vL g_a__0 a_.Texts,vI (ln a_.Texts),vI v21]) [] H37 (by decide) (by kernel_rfl) trivial fun _ _ H40 hb => ?_
   replace hS:=hS.below hb
   clear H37 hb
   apply wl_end rfl
   replace hS : SH M X w [eO 9 tS q35 g38,eB b1 [vI a_.Err,vI a_.Num,vL g_a__0 a_.Texts,vL g_a__1 a_.Numbers],eI tS a_.Texts g_a__0,eI (tI .i64) a_.Numbers g_a__1,Ent.tab 1 (Lib.pow10Tab.map fun z => Value.int .u64 z)] _:=hS.sel [0,2,3,4,5] rfl
   refine w_reg [] [1,5,6,17,18,19] (fS [1,5,6,17,18,19] [vP b1,vL g38 q35,vO,vL g_a__0 a_.Texts,vI (ln a_.Texts),vI (w64 (v21 + 1))]) [] H40 (by kernel_rfl) trivial fun _ _ H42 hb => ?_
   replace hS:=hS.below hb
   clear H40 hb
   exact ⟨_,Nat.lt_succ_self _,q35,w64 (v21 + 1),g38,hm,FrG.keep (ks:=[1,6,17,18,5,19]) H42 (by kernel_rfl),hS⟩
 ·rintro _ _ ⟨g45,H,hS⟩
  obtain ⟨z47,hz,hm⟩:=bindE hm
  refine w_cut (fun a' w' => ∃ (g77 : Gh),Fr 54 (fS [1,5,6] [vP b1,vL g45 z15,vL g77 z47]) a' ∧ SH M X w [eO 9 tS z47 g77,eO 9 tS z15 g45,eB b1 [vI a_.Err,vI a_.Num,vL g_a__0 a_.Texts,vL g_a__1 a_.Numbers],eI tS a_.Texts g_a__0,eI (tI .i64) a_.Numbers g_a__1,Ent.tab 1 (Lib.pow10Tab.map fun z => Value.int .u64 z)] w') ?_ ?_
  ·replace hm:=hz
   refine s_reg [(vL g_a__1 a_.Numbers)] [1,5,6,30,31,32] (fS [1,5,6,30,31,32] [vP b1,vL g45 z15,vO,vL g_a__1 a_.Numbers,vI (ln a_.Numbers),vI 0]) [rA b1 3 (vL g_a__1 a_.Numbers)] H (by kernel_rfl) ⟨((hS.bk 1 rfl).at1 rfl),trivial⟩ fun _ _ H49 hb => ?_
   replace hS:=hS.below hb
   clear H hb
   apply w_block
   replace hS : SH M X w [eO 9 tS ([] : List Str) (.nil),eO 9 tS z15 g45,eB b1 [vI a_.Err,vI a_.Num,vL g_a__0 a_.Texts,vL g_a__1 a_.Numbers],eI tS a_.Texts g_a__0,eI (tI .i64) a_.Numbers g_a__1,Ent.tab 1 (Lib.pow10Tab.map fun z => Value.int .u64 z)] _:=hS.addNil 9 tS
   refine w_loop (fun kk a' w' => ∃ (v51 : List Str) (v53 : Int) (g52 : Gh),answer_Line_L2 m a_ kk v51 v53 = some _ ∧ Fr 54 (fS [1,5,30,31,6,32] [vP b1,vL g45 z15,vL g_a__1 a_.Numbers,vI (ln a_.Numbers),vL g52 v51,vI v53]) a' ∧ SH M X w [eO 9 tS v51 g52,eO 9 tS z15 g45,eB b1 [vI a_.Err,vI a_.Num,vL g_a__0 a_.Texts,vL g_a__1 a_.Numbers],eI tS a_.Texts g_a__0,eI (tI .i64) a_.Numbers g_a__1,Ent.tab 1 (Lib.pow10Tab.map fun z => Value.int .u64 z)] w') ⟨_,([] : List Str),0,Gh.nil,hm,FrG.keep (ks:=[1,5,30,31,6,32]) H49 (by kernel_rfl),hS⟩ ?_
   clear hm H49 hS
   rintro kk _ _ ⟨v51,v53,g52,hm,H,hS⟩
   cases kk with
   | zero => exact noneE hm
   | succ kk =>
    rw [answer_Line_L2] at hm
    refine s_reg [] [1,5,6,30,31,32,33] (fS [1,5,6,30,31,32,33] [vP b1,vL g45 z15,vL g52 v51,vL g_a__1 a_.Numbers,vI (ln a_.Numbers),vI v53,vB (decide (v53 < (ln a_.Numbers)))]) [] H (by kernel_rfl) trivial fun _ _ H55 hb => ?_
    replace hS:=hS.below hb
    clear H hb
    apply w_seq
    refine w_if H55 rfl (fun hc => ?_) (fun hc => ?c75)
    case c75 =>
     replace hm:=bF hc hm
     apply w_exit rfl
     obtain rfl:=someE hm
     exact ⟨g52,FrG.keep (ks:=[1,5,6]) H55 (by kernel_rfl),hS⟩
    replace hm:=bT hc hm
    apply w_skip
    apply w_seq
    apply w_block
    obtain ⟨ho56,hm⟩:=chkE hm
    refine s_reg [(vI (gi a_.Numbers v53))] [1,5,6,10,30,31,32] (fS [1,5,6,10,30,31,32] [vP b1,vL g45 z15,vL g52 v51,vI (gi a_.Numbers v53),vL g_a__1 a_.Numbers,vI (ln a_.Numbers),vI v53]) [fun _ => oka g_a__1.a ∧ 0 ≤ v53 ∧ v53 < ln a_.Numbers,fun wz => V.at1 ⟨ab g_a__1.a,ao g_a__1.a + (v53).toNat * 1,none⟩ (vI (gi a_.Numbers v53)) wz] H55 (by kernel_rfl) ⟨((hS.im 4 rfl).oki ho56),((hS.im 4 rfl).at1 ho56 0 rfl),trivial⟩ fun _ _ H58 hb => ?_
    replace hS:=hS.below hb
    clear H55 hb
    apply wl_start
    obtain ⟨y59,hy59,hm⟩:=bindE hm
    refine wl_batch 0 3 [(vS y59)] [1,5,30,31,32,36,38] (fS [1,5,30,31,32,36,38] [vP b1,vL g45 z15,vL g_a__1 a_.Numbers,vI (ln a_.Numbers),vI v53,vL g52 v51,vS y59]) [rB 30 [vI (gi a_.Numbers v53)] (vS y59)] H58 (by decide) (by kernel_rfl) ⟨(x_Itoa_ok _ _ hy59 _ (s0tab s0nil (hS.at 5 rfl))),trivial⟩ fun _ _ H61 hb => ?_
    replace hS:=hS.below hb
    clear H58 hb
    have hd:=hS.hand [] [0,1,2,3,4,5] rfl rfl
    refine m_stp [39,1,5,30,31,32,36] (fS [1,5,30,31,32,36] [vP b1,vL g45 z15,vL g_a__1 a_.Numbers,vI (ln a_.Numbers),vI v53,vL g52 v51]) H61 rfl rfl rfl rfl (o_lit (T:=tS) (E:=9) (zv:=vN) [vS y59] ([y59] : List Str) [gL []] _ H61 hd rfl (by kernel_rfl) (by kernel_rfl) (by kernel_rfl) (by kernel_rfl) (by kernel_rfl) (by kernel_rfl) (by kernel_rfl) rfl (InnL.cons trivial InnL.nil)) (fun _ => rfl) fun _ _ v H65 hq => ?_
    clear H61 hd
    obtain ⟨g62,rfl,hq⟩:=hq
    replace hS : SH M X w [eO 9 tS ([y59] : List Str) g62,eO 9 tS v51 g52,eO 9 tS z15 g45,eB b1 [vI a_.Err,vI a_.Num,vL g_a__0 a_.Texts,vL g_a__1 a_.Numbers],eI tS a_.Texts g_a__0,eI (tI .i64) a_.Numbers g_a__1,Ent.tab 1 (Lib.pow10Tab.map fun z => Value.int .u64 z)] _:=hS.join [] [0,1,2,3,4,5] rfl rfl hq
    clear hq
    obtain ⟨ho66,hm⟩:=chkE hm
    obtain ⟨q67,hq67,hm⟩:=letE hm
    have hd:=hS.hand [1,0] [2,3,4,5,6] rfl rfl
    refine m_stp [40,1,5,30,31,32] (fS [1,5,30,31,32] [vP b1,vL g45 z15,vL g_a__1 a_.Numbers,vI (ln a_.Numbers),vI v53]) H65 rfl rfl rfl rfl (o_app2 (T:=tS) (zv:=vN) (g1:=g52) (g2:=g62) (l1:=v51) (l2:=([y59] : List Str)) q67 hq67.symm H65 hd rfl rfl rfl rfl rfl rfl rfl (by kernel_rfl) (by kernel_rfl) rfl rfl ho66) (fun _ => rfl) fun _ _ v H69 hq => ?_
    clear H65 hd
    obtain ⟨g70,rfl,hq⟩:=hq
    replace hS : SH M X w [eO 9 tS q67 g70,eO 9 tS ([y59] : List Str) g62,eO 9 tS z15 g45,eB b1 [vI a_.Err,vI a_.Num,vL g_a__0 a_.Texts,vL g_a__1 a_.Numbers],eI tS a_.Texts g_a__0,eI (tI .i64) a_.Numbers g_a__1,Ent.tab 1 (Lib.pow10Tab.map fun z => Value.int .u64 z)] _:=hS.join [1,0] [2,3,4,5,6] rfl rfl hq
    clear hq
    refine wl_batch 5 6 [] [1,5,6,30,31,32] (fS [1,5,6,30,31,32] [vP b1,vL g45 z15,vL g70 q67,vL g_a__1 a_.Numbers,vI (ln a_.Numbers),vI v53]) [] H69 (by decide) (by kernel_rfl) trivial fun _ _ H72 hb => ?_
    replace hS:=hS.below hb
    clear H69 hb
    apply wl_end rfl
    replace hS : SH M X w [eO 9 tS q67 g70,eO 9 tS z15 g45,eB b1 [vI a_.Err,vI a_.Num,vL g_a__0 a_.Texts,vL g_a__1 a_.Numbers],eI tS a_.Texts g_a__0,eI (tI .i64) a_.Numbers g_a__1,Ent.tab 1 (Lib.pow10Tab.map fun z => Value.int .u64 z)] _:=hS.sel [0,2,3,4,5,6] rfl
    refine w_reg [] [1,5,6,30,31,32] (fS [1,5,6,30,31,32] [vP b1,vL g45 z15,vL g70 q67,vL g_a__1 a_.Numbers,vI (ln a_.Numbers),vI (w64 (v53 + 1))]) [] H72 (by kernel_rfl) trivial fun _ _ H74 hb => ?_
    replace hS:=hS.below hb
    clear H72 hb
    exact ⟨_,Nat.lt_succ_self _,q67,w64 (v53 + 1),g70,hm,FrG.keep (ks:=[1,5,30,31,6,32]) H74 (by kernel_rfl),hS⟩
  ·rintro _ _ ⟨g77,H,hS⟩
   obtain ⟨y80,hy80,hm⟩:=bindE hm
   obtain ⟨y81,hy81,hm⟩:=bindE hm
   obtain ⟨y82,hy82,hm⟩:=bindE hm
   obtain ⟨y83,hy83,hm⟩:=bindE hm
   obtain ⟨y86,hy86,hm⟩:=bindE hm
   refine s_drawS (base:=(fS [1,5,6] [vP b1,vL g45 z15,vL g77 z47])) (L:=[eO 9 tS z47 g77,eO 9 tS z15 g45,eB b1 [vI a_.Err,vI a_.Num,vL g_a__0 a_.Texts,vL g_a__1 a_.Numbers],eI tS a_.Texts g_a__0,eI (tI .i64) a_.Numbers g_a__1,Ent.tab 1 (Lib.pow10Tab.map fun z => Value.int .u64 z)]) 14 6 (fun yg79 => [vP b1,vI a_.Err,vS y80,vA b1 1,vI a_.Num,vS y81,vL g45 z15,vS y82,vL g77 z47,vS y83,vK (yg79 10 0) 4,vS y86,vS y86,vI 0]) (fun yg79 => [[],[],[],[],[],[],[],[],[],[],[eO 9 tS ([y80,y81,y82,y83] : List Str) (yg79 10 0)],[],[],[]]) [[16,17,18],[16,17,18],[19],[16,17,18],[16,17,18],[19],[],[15],[],[14],[],[10],[],[]] [[],[],[],[],[],[],[],[],[],[],[],[],[],[]] [[0],[0,1],[0,1,2],[3],[3,4],[3,4,5],[6],[6,7],[8],[8,9],[0,1,2,3,4,5,6,7,8,9,10],[0,1,2,3,4,5,6,7,8,9,10,11],[0,1,2,3,4,5,6,7,8,9,10,11,12],[13]] [] (FrG.keep (ks:=[1,5,6]) H (by kernel_rfl)) (fun _ _ h => by cases h) (by kernel_rfl) hS (by kernel_rfl) rfl rfl (by kernel_rfl) (by kernel_rfl) (by kernel_rfl) (gd_none (by kernel_rfl) _ _) ?hloc_yg79 ?hstep_yg79 fun _ _ yg79 H88 hv hS => ?hK_yg79
   case hloc_yg79 => exact ⟨(fun _ _ _ _ => ⟨rfl,rfl⟩),(fun _ _ _ _ => ⟨rfl,rfl⟩),(fun _ _ _ _ => ⟨rfl,rfl⟩),(fun _ _ _ _ => ⟨rfl,rfl⟩),(fun _ _ _ _ => ⟨rfl,rfl⟩),(fun _ _ _ _ => ⟨rfl,rfl⟩),(fun _ _ _ _ => ⟨rfl,rfl⟩),(fun _ _ _ _ => ⟨rfl,rfl⟩),(fun _ _ _ _ => ⟨rfl,rfl⟩),(fun _ _ _ _ => ⟨rfl,rfl⟩),(fun _ i g hi => lcG [10] (fun yg79 => (vK (yg79 10 0) 4,[eO 9 tS ([y80,y81,y82,y83] : List Str) (yg79 10 0)])) hi rfl),(fun _ _ _ _ => ⟨rfl,rfl⟩),(fun _ _ _ _ => ⟨rfl,rfl⟩),(fun _ _ _ _ => ⟨rfl,rfl⟩),trivial⟩
   case hstep_yg79 =>
    refine ⟨?_,?_,?_,?_,?_,?_,?_,?_,?_,?_,?_,?_,?_,?_,trivial⟩
    ·intro o ho a w yg79 M Hb hv hO hS
     obtain rfl:=someE ho
     exact Stp.mono (o_evs [] (vP b1) none [] Hb rfl (by kernel_rfl) (fun q e => by cases e)) fun _ _ hq => ⟨gL [],fun _ _ => hq.1,(hS.below hq.2.below).sel [0,1,2] rfl⟩
    ·intro o ho a w yg79 M Hb hv hO hS
     obtain rfl:=someE ho
     exact Stp.mono (o_evs [(vI a_.Err)] (vI a_.Err) (some (rA b1 0 (vI a_.Err))) [] ((Hb).add (hv 0 (by decide) (by decide) 42 rfl)) rfl (by kernel_rfl) (fun q e => by cases e; exact ((hS.bk 0 rfl).at1 rfl))) fun _ _ hq => ⟨gL [],fun _ _ => hq.1,(hS.below hq.2.below).sel [0,1,2] rfl⟩
    ·intro o ho a w yg79 M Hb hv hO hS
     obtain rfl:=someE ho
     exact Stp.mono (o_evs [(vS y80)] (vS y80) (some (rB 30 [vI a_.Err] (vS y80))) [] ((Hb).add (hv 1 (by decide) (by decide) 43 rfl)) rfl (by kernel_rfl) (fun q e => by cases e; exact (x_Itoa_ok _ _ hy80 _ (s0tab s0nil (hS.at 0 rfl))))) fun _ _ hq => ⟨gL [],fun _ _ => hq.1,(hS.below hq.2.below).sel [0] rfl⟩
    ·intro o ho a w yg79 M Hb hv hO hS
     obtain rfl:=someE ho
     exact Stp.mono (o_evs [] (vA b1 1) none [] Hb rfl (by kernel_rfl) (fun q e => by cases e)) fun _ _ hq => ⟨gL [],fun _ _ => hq.1,(hS.below hq.2.below).sel [0,1,2] rfl⟩
    ·intro o ho a w yg79 M Hb hv hO hS
     obtain rfl:=someE ho
     exact Stp.mono (o_evs [(vI a_.Num)] (vI a_.Num) (some (rA b1 1 (vI a_.Num))) [] ((Hb).add (hv 3 (by decide) (by decide) 45 rfl)) rfl (by kernel_rfl) (fun q e => by cases e; exact ((hS.bk 0 rfl).at1 rfl))) fun _ _ hq => ⟨gL [],fun _ _ => hq.1,(hS.below hq.2.below).sel [0,1,2] rfl⟩
    ·intro o ho a w yg79 M Hb hv hO hS
     obtain rfl:=someE ho
     exact Stp.mono (o_evs [(vS y81)] (vS y81) (some (rB 30 [vI a_.Num] (vS y81))) [] ((Hb).add (hv 4 (by decide) (by decide) 46 rfl)) rfl (by kernel_rfl) (fun q e => by cases e; exact (x_Itoa_ok _ _ hy81 _ (s0tab s0nil (hS.at 0 rfl))))) fun _ _ hq => ⟨gL [],fun _ _ => hq.1,(hS.below hq.2.below).sel [0] rfl⟩
    ·intro o ho a w yg79 M Hb hv hO hS
     obtain rfl:=someE ho
     exact Stp.mono (o_evs [] (vL g45 z15) none [] Hb rfl (by kernel_rfl) (fun q e => by cases e)) fun _ _ hq => ⟨gL [],fun _ _ => hq.1,(hS.below hq.2.below).sel [] rfl⟩
    ·intro o ho a w yg79 M Hb hv hO hS
     obtain rfl:=someE ho
     exact Stp.mono (o_evs [(vS y82)] (vS y82) (some (rB 32 [vL g45 z15] (vS y82))) [] ((Hb).add (hv 6 (by decide) (by decide) 48 rfl)) rfl (by kernel_rfl) (fun q e => by cases e; exact (answer_list_ok (g_l_:=g45) m _ _ hy82 _ (s0im s0nil (hS.osl 0 rfl))))) fun _ _ hq => ⟨gL [],fun _ _ => hq.1,(hS.below hq.2.below).sel [0] rfl⟩
    ·intro o ho a w yg79 M Hb hv hO hS
     obtain rfl:=someE ho
     exact Stp.mono (o_evs [] (vL g77 z47) none [] Hb rfl (by kernel_rfl) (fun q e => by cases e)) fun _ _ hq => ⟨gL [],fun _ _ => hq.1,(hS.below hq.2.below).sel [] rfl⟩
    ·intro o ho a w yg79 M Hb hv hO hS
     obtain rfl:=someE ho
     exact Stp.mono (o_evs [(vS y83)] (vS y83) (some (rB 32 [vL g77 z47] (vS y83))) [] ((Hb).add (hv 8 (by decide) (by decide) 50 rfl)) rfl (by kernel_rfl) (fun q e => by cases e; exact (answer_list_ok (g_l_:=g77) m _ _ hy83 _ (s0im s0nil (hS.osl 0 rfl))))) fun _ _ hq => ⟨gL [],fun _ _ => hq.1,(hS.below hq.2.below).sel [0] rfl⟩
    ·intro o ho a w yg79 M Hb hv hO hS0
     obtain rfl:=someE ho
     have H : Fr 54 ((fS [51,49,47,44] [vS y83,vS y82,vS y81,vS y80]) ++ (fS [1,5,6] [vP b1,vL g45 z15,vL g77 z47])) _:=((((Hb).add (hv 2 (by decide) (by decide) 44 rfl)).add (hv 5 (by decide) (by decide) 47 rfl)).add (hv 7 (by decide) (by decide) 49 rfl)).add (hv 9 (by decide) (by decide) 51 rfl)
     obtain ⟨X,hX⟩ : ∃ X,X = fpl []:=⟨_,rfl⟩
     have hS : SH M X w [] w:=by rw [hX]; exact hS0
     have hd:=hS.hand [] [] rfl rfl
     refine Stp.mono (o_lit (T:=tS) (E:=9) (zv:=vN) [vS y80,vS y81,vS y82,vS y83] ([y80,y81,y82,y83] : List Str) [gL [],gL [],gL [],gL []] _ H hd rfl (by kernel_rfl) (by kernel_rfl) (by kernel_rfl) (by kernel_rfl) (by kernel_rfl) (by kernel_rfl) (by kernel_rfl) rfl (InnL.cons trivial (InnL.cons trivial (InnL.cons trivial (InnL.cons trivial InnL.nil))))) ?_
     rintro v w2 hq
     obtain ⟨g84,rfl,hq⟩:=hq
     replace hS : SH M X w [eO 9 tS ([y80,y81,y82,y83] : List Str) g84] _:=hS.join [] [] rfl rfl hq
     clear hq
     rw [hX] at hS
     exact ⟨gL [g84],fun _ _ => rfl,hS.sel [0] rfl⟩
    ·intro o ho a w yg79 M Hb hv hO hS
     obtain rfl:=someE ho
     exact Stp.mono (o_evs [(vS y86)] (vS y86) (some (rB 31 [vK (yg79 10 0) 4,vS [32]] (vS y86))) [] ((Hb).add (hv 10 (by decide) (by decide) 52 rfl)) rfl (by kernel_rfl) (fun q e => by cases e; exact (strings_Join_ok (g_elems:=(yg79 10 0)) m _ _ _ hy86 _ (s0im s0nil (hS.osl 0 rfl))))) fun _ _ hq => ⟨gL [],fun _ _ => hq.1,(hS.below hq.2.below).sel [0] rfl⟩
    ·intro o ho a w yg79 M Hb hv hO hS
     obtain rfl:=someE ho
     exact Stp.mono (o_evs [] (vS y86) none [] ((Hb).add (hv 11 (by decide) (by decide) 53 rfl)) rfl (by kernel_rfl) (fun q e => by cases e)) fun _ _ hq => ⟨gL [],fun _ _ => hq.1,(hS.below hq.2.below).sel [] rfl⟩
    ·intro o ho a w yg79 M Hb hv hO hS
     obtain rfl:=someE ho
     exact Stp.mono (o_evs [] (vI 0) none [] Hb rfl (by kernel_rfl) (fun q e => by cases e)) fun _ _ hq => ⟨gL [],fun _ _ => hq.1,(hS.below hq.2.below).sel [] rfl⟩
   have H89 : Fr 54 (fS [3,2] [vI 0,vS y86]) _:=(FrG.add (FrG.add (FrG.keep (ks:=[]) H88 (by kernel_rfl)) (hv 12 2 rfl)) (hv 13 3 rfl))
   replace hS : SH M X w [eO 9 tS ([y80,y81,y82,y83] : List Str) (yg79 10 0),eO 9 tS z47 g77,eO 9 tS z15 g45,eB b1 [vI a_.Err,vI a_.Num,vL g_a__0 a_.Texts,vL g_a__1 a_.Numbers],eI tS a_.Texts g_a__0,eI (tI .i64) a_.Numbers g_a__1,Ent.tab 1 (Lib.pow10Tab.map fun z => Value.int .u64 z)] _:=hS
   clear hv H88
   generalize yg79 10 0 = g90 at H89 hS
   replace hS : SH M X w [Ent.tab 1 (Lib.pow10Tab.map fun z => Value.int .u64 z)] _:=hS.sel [6] rfl
   apply w_ret
   obtain rfl:=someE hm
   exact retR2 H89 rfl rfl rfl ⟨_,rfl,rfl,(hS.sel [] rfl)⟩
theorem answer_Line_ok {g_a__0 : Gh} {g_a__1 : Gh} (m : Nat) (a_ : TAnswer) (r : Str × Int) (hm : answer_Line m a_ = some r) (w : World) (hL : S0 F0 [eI tS a_.Texts g_a__0,eI (tI .i64) a_.Numbers g_a__1,Ent.tab 1 (Lib.pow10Tab.map fun z => Value.int .u64 z)] w ∧ fpl [eI tS a_.Texts g_a__0,eI (tI .i64) a_.Numbers g_a__1,Ent.tab 1 (Lib.pow10Tab.map fun z => Value.int .u64 z)] = []) : RetB Tryz.prog 14 ⟨[vG [vI a_.Err,vI a_.Num,vL g_a__0 a_.Texts,vL g_a__1 a_.Numbers]]⟩ (vW [vS r.1,vI r.2]) w:=retB_of hL (Tryz.call14 _) (fun w' h => answer_Line_w F0 m   a_ r hm w' h)

theorem answer_Text_w {g_l_ : Gh} (M : Av) (m : Nat) (l_ : List TAnswer) (r : Str × Int) (hm : answer_Text m l_ = some r) (w : World) (hS : S0 M [eI tyAnswer l_ g_l_,Ent.tab 1 (Lib.pow10Tab.map fun z => Value.int .u64 z)] w) : Calls Tryz.prog 5 ⟨[vL g_l_ l_]⟩ w (fun e w' => ∃ v,e = .returned v ∧ v = vW [vS r.1,vI r.2] ∧ SH M (fpl [eI tyAnswer l_ g_l_,Ent.tab 1 (Lib.pow10Tab.map fun z => Value.int .u64 z)]) w [] w'):=by
 rw [answer_Text] at hm
 have hS0 : SH M (fpl [eI tyAnswer l_ g_l_,Ent.tab 1 (Lib.pow10Tab.map fun z => Value.int .u64 z)]) w [eI tyAnswer l_ g_l_,Ent.tab 1 (Lib.pow10Tab.map fun z => Value.int .u64 z)] w:=hS
 generalize hX : fpl [eI tyAnswer l_ g_l_,Ent.tab 1 (Lib.pow10Tab.map fun z => Value.int .u64 z)] = X at hS0 ⊢
 clear hS hX
 have hS:=hS0
 clear hS0
 refine calls_entryP Tryz.func5 rfl Tryz.ntmps5 rfl fun _ H => ?_
 refine s_reg [] [0] [(0,[],vL g_l_ l_)] [] H (by kernel_rfl) trivial fun _ _ H2 hb => ?_
 replace hS:=hS.below hb
 clear H hb
 apply w_seq
 obtain ⟨y3,hy3,hm⟩:=bindE hm
 refine s_reg [(vI y3)] [0,4] (fS [0,4] [vL g_l_ l_,vI y3]) [rB 13 [vL g_l_ l_] (vI y3)] H2 (by kernel_rfl) ⟨(answer_check_ok (g_l_:=g_l_) m _ _ hy3 _ (s0im s0nil (hS.im 0 rfl))),trivial⟩ fun _ _ H5 hb => ?_
 replace hS:=hS.below hb
 clear H2 hb
 refine s_reg [] [0,4,13] (fS [0,4,13] [vL g_l_ l_,vI y3,vB (y3 != 0)]) [] H5 (by kernel_rfl) trivial fun _ _ H7 hb => ?_
 replace hS:=hS.below hb
 clear H5 hb
 refine w_if H7 rfl (fun hc => ?c55) (fun hc => ?_)
 case c55 =>
  replace hm:=bT hc hm
  refine s_reg [] [2,3] (fS [2,3] [vN,vI y3]) [] H7 (by kernel_rfl) trivial fun _ _ H9 hb => ?_
  replace hS:=hS.below hb
  clear H7 hb
  replace hS : SH M X w [Ent.tab 1 (Lib.pow10Tab.map fun z => Value.int .u64 z)] _:=hS.sel [1] rfl
  apply w_ret
  obtain rfl:=someE hm
  exact retR2 H9 rfl rfl rfl ⟨_,rfl,rfl,(hS.sel [] rfl)⟩
 replace hm:=bF hc hm
 apply w_skip
 apply w_seq
 apply wl_start
 have hd:=hS.hand [] [0,1] rfl rfl
 refine m_stp [5,0] [(0,[],vL g_l_ l_)] H7 rfl rfl rfl rfl (o_allocB 5 (z:=vG [vQ,vO]) hd (by kernel_rfl) rfl) (fun _ => rfl) fun _ _ v H12 hq => ?_
 clear H7 hd
 obtain ⟨b10,rfl,hq⟩:=hq
 replace hS : SH M X w [Ent.bld 48 5 b10 ([] : Str) (.nil),eI tyAnswer l_ g_l_,Ent.tab 1 (Lib.pow10Tab.map fun z => Value.int .u64 z)] _:=hS.join [] [0,1] rfl rfl hq
 clear hq
 apply wl_end rfl
 obtain ⟨z13,hz,hm_z13⟩:=bindE hm
 refine w_cut (fun a' w' => ∃ s_z13 : Str,z13 = Sum.inr s_z13 ∧ ∃ (g49 : Gh),Fr 34 [(5,[],vP b10)] a' ∧ SH M X w [Ent.bld 48 5 b10 s_z13 g49,eI tyAnswer l_ g_l_,Ent.tab 1 (Lib.pow10Tab.map fun z => Value.int .u64 z)] w') ?_ ?_
 ·replace hm:=hz
  refine s_reg [] [5,15,16,17] (fS [5,15,16,17] [vP b10,vL g_l_ l_,vI (ln l_),vI 0]) [] H12 (by kernel_rfl) trivial fun _ _ H15 hb => ?_
  replace hS:=hS.below hb
  clear H12 hb
  apply w_block
  refine w_loop (fun kk a' w' => ∃ (v16 : Int) (v17 : Str) (g18 : Gh),answer_Text_L1 m l_ kk v16 v17 = some _ ∧ Fr 34 (fS [5,15,16,17] [vP b10,vL g_l_ l_,vI (ln l_),vI v16]) a' ∧ SH M X w [Ent.bld 48 5 b10 v17 g18,eI tyAnswer l_ g_l_,Ent.tab 1 (Lib.pow10Tab.map fun z => Value.int .u64 z)] w') ⟨_,0,([] : Str),Gh.nil,hm,FrG.keep (ks:=[5,15,16,17]) H15 (by kernel_rfl),hS⟩ ?_
  clear hm H15 hS
  rintro kk _ _ ⟨v16,v17,g18,hm,H,hS⟩
  cases kk with
  | zero => exact noneE hm
  | succ kk =>
   rw [answer_Text_L1] at hm
   refine s_reg [] [5,15,16,17,18] (fS [5,15,16,17,18] [vP b10,vL g_l_ l_,vI (ln l_),vI v16,vB (decide (v16 < (ln l_)))]) [] H (by kernel_rfl) trivial fun _ _ H20 hb => ?_
   replace hS:=hS.below hb
   clear H hb
   apply w_seq
   refine w_if H20 rfl (fun hc => ?_) (fun hc => ?c47)
   case c47 =>
    replace hm:=bF hc hm
    apply w_exit rfl
    obtain rfl:=someE hm
    exact ⟨_,rfl,g18,FrG.keep (ks:=[5]) H20 (by kernel_rfl),hS⟩
   replace hm:=bT hc hm
   apply w_skip
   apply w_seq
   apply w_block
   apply w_seq
   apply wl_start
   obtain ⟨ho21,hm⟩:=chkE hm
   refine wl_batch 0 2 [(vG [vI ((gi l_ v16).Err),vI ((gi l_ v16).Num),.slice (g_l_.s (v16).toNat 0).a (((gi l_ v16).Texts).length) (g_l_.s (v16).toNat 0).c,.slice (g_l_.s (v16).toNat 1).a (((gi l_ v16).Numbers).length) (g_l_.s (v16).toNat 1).c])] [5,15,16,17,20] (fS [5,15,16,17,20] [vP b10,vL g_l_ l_,vI (ln l_),vI v16,vG [vI ((gi l_ v16).Err),vI ((gi l_ v16).Num),.slice (g_l_.s (v16).toNat 0).a (((gi l_ v16).Texts).length) (g_l_.s (v16).toNat 0).c,.slice (g_l_.s (v16).toNat 1).a (((gi l_ v16).Numbers).length) (g_l_.s (v16).toNat 1).c]]) [fun _ => oka g_l_.a ∧ 0 ≤ v16 ∧ v16 < ln l_,fun wz => V.atN (ab g_l_.a) (ao g_l_.a + (v16).toNat * 4) [vI ((gi l_ v16).Err),vI ((gi l_ v16).Num),.slice (g_l_.s (v16).toNat 0).a (((gi l_ v16).Texts).length) (g_l_.s (v16).toNat 0).c,.slice (g_l_.s (v16).toNat 1).a (((gi l_ v16).Numbers).length) (g_l_.s (v16).toNat 1).c] 0 wz] H20 (by decide) (by kernel_rfl) ⟨((hS.im 1 rfl).oki ho21),((hS.im 1 rfl).atA ho21 0 rfl),trivial⟩ fun _ _ H23 hb => ?_
   replace hS:=hS.below hb
   clear H20 hb
   have hd:=hS.hand [] [0,1,2] rfl rfl
   refine m_stp [7,5,15,16,17,20] (fS [5,15,16,17,20] [vP b10,vL g_l_ l_,vI (ln l_),vI v16,vG [vI ((gi l_ v16).Err),vI ((gi l_ v16).Num),.slice (g_l_.s (v16).toNat 0).a (((gi l_ v16).Texts).length) (g_l_.s (v16).toNat 0).c,.slice (g_l_.s (v16).toNat 1).a (((gi l_ v16).Numbers).length) (g_l_.s (v16).toNat 1).c]]) H23 rfl rfl rfl rfl (o_alloc [vI 0,vI 0,vO,vO] (z:=vG [vI 0,vI 0,vO,vO]) hd (by kernel_rfl) rfl) (fun _ => rfl) fun _ _ v H26 hq => ?_
   clear H23 hd
   obtain ⟨b24,rfl,hq⟩:=hq
   replace hS : SH M X w [eB b24 [vI 0,vI 0,vO,vO],Ent.bld 48 5 b10 v17 g18,eI tyAnswer l_ g_l_,Ent.tab 1 (Lib.pow10Tab.map fun z => Value.int .u64 z)] _:=hS.join [] [0,1,2] rfl rfl hq
   clear hq
   have hd:=hS.hand [0] [1,2,3] rfl rfl
   refine m_stp0 [5,7,15,16,17] (fS [5,7,15,16,17] [vP b10,vP b24,vL g_l_ l_,vI (ln l_),vI v16]) H26 rfl rfl rfl (o_store [vI ((gi l_ v16).Err),vI ((gi l_ v16).Num),.slice (g_l_.s (v16).toNat 0).a (((gi l_ v16).Texts).length) (g_l_.s (v16).toNat 0).c,.slice (g_l_.s (v16).toNat 1).a (((gi l_ v16).Numbers).length) (g_l_.s (v16).toNat 1).c] H26 hd rfl rfl (by kernel_rfl) rfl rfl rfl) rfl fun _ _ H28 hq => ?_
   clear H26 hd
   obtain ⟨_,hq⟩:=hq
   replace hS : SH M X w [eB b24 [vI ((gi l_ v16).Err),vI ((gi l_ v16).Num),.slice (g_l_.s (v16).toNat 0).a (((gi l_ v16).Texts).length) (g_l_.s (v16).toNat 0).c,.slice (g_l_.s (v16).toNat 1).a (((gi l_ v16).Numbers).length) (g_l_.s (v16).toNat 1).c],Ent.bld 48 5 b10 v17 g18,eI tyAnswer l_ g_l_,Ent.tab 1 (Lib.pow10Tab.map fun z => Value.int .u64 z)] _:=hS.join [0] [1,2,3] rfl rfl hq
   clear hq
   apply wl_end rfl
   obtain ⟨y29,hy29,hm⟩:=bindE hm
   refine s_reg [(vG [vI ((gi l_ v16).Err),vI ((gi l_ v16).Num),.slice (g_l_.s (v16).toNat 0).a (((gi l_ v16).Texts).length) (g_l_.s (v16).toNat 0).c,.slice (g_l_.s (v16).toNat 1).a (((gi l_ v16).Numbers).length) (g_l_.s (v16).toNat 1).c]),(vW [vS y29.1,vI y29.2])] [5,8,9,15,16,17] (fS [5,8,9,15,16,17] [vP b10,vS y29.1,vI y29.2,vL g_l_ l_,vI (ln l_),vI v16]) [rN b24 0 [vI ((gi l_ v16).Err),vI ((gi l_ v16).Num),.slice (g_l_.s (v16).toNat 0).a (((gi l_ v16).Texts).length) (g_l_.s (v16).toNat 0).c,.slice (g_l_.s (v16).toNat 1).a (((gi l_ v16).Numbers).length) (g_l_.s (v16).toNat 1).c],rB 14 [vG [vI ((gi l_ v16).Err),vI ((gi l_ v16).Num),.slice (g_l_.s (v16).toNat 0).a (((gi l_ v16).Texts).length) (g_l_.s (v16).toNat 0).c,.slice (g_l_.s (v16).toNat 1).a (((gi l_ v16).Numbers).length) (g_l_.s (v16).toNat 1).c]] (vW [vS y29.1,vI y29.2])] H28 (by kernel_rfl) ⟨((hS.bk 0 rfl).atD rfl),(answer_Line_ok (g_a__0:=(g_l_.s (v16).toNat 0)) (g_a__1:=(g_l_.s (v16).toNat 1)) m _ _ hy29 _ (s0im (s0im (s0tab s0nil (hS.at 3 rfl)) (tyAnswer_i1 ((hS.im 2 rfl).el ho21))) (tyAnswer_i0 ((hS.im 2 rfl).el ho21)))),trivial⟩ fun _ _ H31 hb => ?_
   replace hS:=hS.below hb
   clear H28 hb
   replace hS : SH M X w [Ent.bld 48 5 b10 v17 g18,eI tyAnswer l_ g_l_,Ent.tab 1 (Lib.pow10Tab.map fun z => Value.int .u64 z)] _:=hS.sel [1,2,3] rfl
   apply w_seq
   refine s_reg [] [5,8,9,15,16,17,27] (fS [5,8,9,15,16,17,27] [vP b10,vS y29.1,vI y29.2,vL g_l_ l_,vI (ln l_),vI v16,vB (y29.2 != 0)]) [] H31 (by kernel_rfl) trivial fun _ _ H33 hb => ?_
   replace hS:=hS.below hb
   clear H31 hb
   refine w_if H33 rfl (fun hc => ?c46) (fun hc => ?_)
   case c46 =>
    replace hm:=bT hc hm
    refine s_reg [] [2,3] (fS [2,3] [vN,vI y29.2]) [] H33 (by kernel_rfl) trivial fun _ _ H35 hb => ?_
    replace hS:=hS.below hb
    clear H33 hb
    apply w_ret
    obtain rfl:=someE hm
    have hm:=hm_z13
    obtain rfl:=someE hm
    exact retR2 H35 rfl rfl rfl ⟨_,rfl,rfl,(hS.sel [] rfl)⟩
   replace hm:=bF hc hm
   apply w_skip
   apply wl_start
   obtain ⟨ho36,hm⟩:=chkE hm
   refine wl_batch 0 2 [] [5,15,16,17,30] (fS [5,15,16,17,30] [vP b10,vL g_l_ l_,vI (ln l_),vI v16,vS (y29.1 ++ [10])]) [fun _ => ln y29.1 + ln [10] ≤ 9223372036854775807] H33 (by decide) (by kernel_rfl) ⟨ho36,trivial⟩ fun _ _ H38 hb => ?_
   replace hS:=hS.below hb
   clear H33 hb
   obtain ⟨ho39,hm⟩:=chkE hm
   obtain ⟨q40,hq40,hm⟩:=letE hm
   have hd:=hS.hand [0] [1,2] rfl rfl
   refine m_stp [31,5,15,16,17] (fS [5,15,16,17] [vP b10,vL g_l_ l_,vI (ln l_),vI v16]) H38 rfl rfl rfl rfl (o_callx H38 rfl rfl (bld_WS (y29.1 ++ [10]) ho39 hd)) (fun _ => rfl) fun _ _ v H42 hq => ?_
   clear H38 hd
   obtain ⟨g43,rfl,hq⟩:=hq
   rw [← hq40] at hq
   replace hS : SH M X w [Ent.bld 48 5 b10 q40 g43,eI tyAnswer l_ g_l_,Ent.tab 1 (Lib.pow10Tab.map fun z => Value.int .u64 z)] _:=hS.join [0] [1,2] rfl rfl hq
   clear hq
   apply wl_end rfl
   refine w_reg [] [5,15,16,17] (fS [5,15,16,17] [vP b10,vL g_l_ l_,vI (ln l_),vI (w64 (v16 + 1))]) [] H42 (by kernel_rfl) trivial fun _ _ H45 hb => ?_
   replace hS:=hS.below hb
   clear H42 hb
   exact ⟨_,Nat.lt_succ_self _,w64 (v16 + 1),q40,g43,hm,FrG.keep (ks:=[5,15,16,17]) H45 (by kernel_rfl),hS⟩
 ·rintro _ _ ⟨s_z13,hz,g49,H,hS⟩
  subst hz
  replace hm:=sumR hm_z13
  replace hS : SH M X w [Ent.bld 48 5 b10 s_z13 g49,Ent.tab 1 (Lib.pow10Tab.map fun z => Value.int .u64 z)] _:=hS.sel [0,2] rfl
  apply w_seq
  apply wl_start
  have hd:=hS.hand [0] [1] rfl rfl
  refine m_stp [33] [] H rfl rfl rfl rfl (o_callx H rfl rfl (bld_St hd)) (fun _ => rfl) fun _ _ v H51 hq => ?_
  clear H hd
  obtain ⟨rfl,hq⟩:=hq
  replace hS : SH M X w [Ent.tab 1 (Lib.pow10Tab.map fun z => Value.int .u64 z)] _:=hS.join [0] [1] rfl rfl hq
  clear hq
  refine wl_batch 1 3 [] [2,3] (fS [2,3] [vS s_z13,vI 0]) [] H51 (by decide) (by kernel_rfl) trivial fun _ _ H53 hb => ?_
  replace hS:=hS.below hb
  clear H51 hb
  apply wl_end rfl
  apply w_ret
  obtain rfl:=someE hm
  exact retR2 H53 rfl rfl rfl ⟨_,rfl,rfl,(hS.sel [] rfl)⟩
theorem answer_Text_ok {g_l_ : Gh} (m : Nat) (l_ : List TAnswer) (r : Str × Int) (hm : answer_Text m l_ = some r) (w : World) (hL : S0 F0 [eI tyAnswer l_ g_l_,Ent.tab 1 (Lib.pow10Tab.map fun z => Value.int .u64 z)] w ∧ fpl [eI tyAnswer l_ g_l_,Ent.tab 1 (Lib.pow10Tab.map fun z => Value.int .u64 z)] = []) : RetB Tryz.prog 5 ⟨[vL g_l_ l_]⟩ (vW [vS r.1,vI r.2]) w:=retB_of hL (Tryz.call5 _) (fun w' h => answer_Text_w F0 m   l_ r hm w' h)

theorem r40_Check_w {g_a__0 : Gh} {g_a__1 : Gh} (M : Av) (m : Nat) (a_ : TAnswer) (r : Int) (hm : r40_Check m a_ = some r) (w : World) (hS : S0 M [eI tS a_.Texts g_a__0,eI (tI .i64) a_.Numbers g_a__1] w) : Calls Tryz.prog 34 ⟨[vG [vI a_.Err,vI a_.Num,vL g_a__0 a_.Texts,vL g_a__1 a_.Numbers]]⟩ w (fun e w' => ∃ v,e = .returned v ∧ v = vI r ∧ SH M (fpl [eI tS a_.Texts g_a__0,eI (tI .i64) a_.Numbers g_a__1]) w [] w'):=by
 rw [r40_Check] at hm
 have hS0 : SH M (fpl [eI tS a_.Texts g_a__0,eI (tI .i64) a_.Numbers g_a__1]) w [eI tS a_.Texts g_a__0,eI (tI .i64) a_.Numbers g_a__1] w:=hS
 generalize hX : fpl [eI tS a_.Texts g_a__0,eI (tI .i64) a_.Numbers g_a__1] = X at hS0 ⊢
 clear hS hX
 have hS:=hS0
 clear hS0
 refine calls_entryP Tryz.func34 rfl Tryz.ntmps34 rfl fun _ H => ?_
 apply w_seq
 apply wl_start
 have hd:=hS.hand [] [0,1] rfl rfl
 refine m_stp [1] [] H rfl rfl rfl rfl (o_box [vI a_.Err,vI a_.Num,vL g_a__0 a_.Texts,vL g_a__1 a_.Numbers] H hd rfl rfl) (fun _ => rfl) fun _ _ v H3 hq => ?_
 clear H hd
 obtain ⟨b1,rfl,hq⟩:=hq
 replace hS : SH M X w [eB b1 [vI a_.Err,vI a_.Num,vL g_a__0 a_.Texts,vL g_a__1 a_.Numbers],eI tS a_.Texts g_a__0,eI (tI .i64) a_.Numbers g_a__1] _:=hS.join [] [0,1] rfl rfl hq
 clear hq
 refine wl_batch 1 2 [] [1] [(1,[],vP b1)] [] H3 (by decide) (by kernel_rfl) trivial fun _ _ H5 hb => ?_
 replace hS:=hS.below hb
 clear H3 hb
 apply wl_end rfl
 refine s_reg [] [1,3] (fS [1,3] [vP b1,vI 0]) [] H5 (by kernel_rfl) trivial fun _ _ H7 hb => ?_
 replace hS:=hS.below hb
 clear H5 hb
 obtain ⟨z8,hz,hm⟩:=bindE hm
 refine w_cut (fun a' w' => Fr 48 (fS [1,3] [vP b1,vI z8]) a' ∧ SH M X w [eB b1 [vI a_.Err,vI a_.Num,vL g_a__0 a_.Texts,vL g_a__1 a_.Numbers],eI tS a_.Texts g_a__0,eI (tI .i64) a_.Numbers g_a__1] w') ?_ ?_
 ·replace hm:=hz
  refine s_reg [] [1,3,4] (fS [1,3,4] [vP b1,vI 0,vI 0]) [] H7 (by kernel_rfl) trivial fun _ _ H10 hb => ?_
  replace hS:=hS.below hb
  clear H7 hb
  apply w_block
  refine w_loop (fun kk a' w' => ∃ (v11 : Int) (v12 : Int),r40_Check_L1 m a_ kk v11 v12 = some _ ∧ Fr 48 (fS [1,3,4] [vP b1,vI v11,vI v12]) a' ∧ SH M X w [eB b1 [vI a_.Err,vI a_.Num,vL g_a__0 a_.Texts,vL g_a__1 a_.Numbers],eI tS a_.Texts g_a__0,eI (tI .i64) a_.Numbers g_a__1] w') ⟨_,0,0,hm,FrG.keep (ks:=[1,3,4]) H10 (by kernel_rfl),hS⟩ ?_
  clear hm H10 hS
  rintro kk _ _ ⟨v11,v12,hm,H,hS⟩
  cases kk with
  | zero => exact noneE hm
  | succ kk =>
   rw [r40_Check_L1] at hm
   apply w_seq
   obtain ⟨x13,hx13,hm⟩:=letE hm
   refine s_reg [(vL g_a__0 a_.Texts)] [1,3,4,13] (fS [1,3,4,13] [vP b1,vI v11,vI v12,vB x13]) [rA b1 2 (vL g_a__0 a_.Texts)] H (by subst hx13; kernel_rfl) ⟨((hS.bk 0 rfl).at1 rfl),trivial⟩ fun _ _ H15 hb => ?_
   replace hS:=hS.below hb
   clear H hb
   refine w_if H15 rfl (fun hc => ?_) (fun hc => ?c21)
   case c21 =>
    replace hm:=bF hc hm
    apply w_exit rfl
    obtain rfl:=someE hm
    exact ⟨FrG.keep (ks:=[1,3]) H15 (by kernel_rfl),hS⟩
   replace hm:=bT hc hm
   apply w_skip
   apply w_seq
   apply w_block
   obtain ⟨ho16,hm⟩:=chkE hm
   refine w_reg [(vL g_a__0 a_.Texts),(vS (gi a_.Texts v12))] [1,3,4] (fS [1,3,4] [vP b1,vI (w64 (v11 + (ln (gi a_.Texts v12)))),vI v12]) [rA b1 2 (vL g_a__0 a_.Texts),fun _ => oka g_a__0.a ∧ 0 ≤ v12 ∧ v12 < ln a_.Texts,fun wz => V.at1 ⟨ab g_a__0.a,ao g_a__0.a + (v12).toNat * 1,none⟩ (vS (gi a_.Texts v12)) wz] H15 (by kernel_rfl) ⟨((hS.bk 0 rfl).at1 rfl),((hS.im 1 rfl).oki ho16),((hS.im 1 rfl).at1 ho16 0 rfl),trivial⟩ fun _ _ H18 hb => ?_
   replace hS:=hS.below hb
   clear H15 hb
   refine w_reg [] [1,3,4] (fS [1,3,4] [vP b1,vI (w64 (v11 + (ln (gi a_.Texts v12)))),vI (w64 (v12 + 1))]) [] H18 (by kernel_rfl) trivial fun _ _ H20 hb => ?_
   replace hS:=hS.below hb
   clear H18 hb
   exact ⟨_,Nat.lt_succ_self _,w64 (v11 + (ln (gi a_.Texts v12))),w64 (v12 + 1),hm,FrG.keep (ks:=[1,3,4]) H20 (by kernel_rfl),hS⟩
 ·rintro _ _ ⟨H,hS⟩
  apply w_seq
  obtain ⟨x23,hx23,hm⟩:=letE hm
  obtain ⟨x24,hx24,hm⟩:=letE hm
  obtain ⟨x25,hx25,hm⟩:=letE hm
  refine s_reg [(vI a_.Err),(vI a_.Err),(vL g_a__0 a_.Texts),(vL g_a__1 a_.Numbers)] [47] [(47,[],vB x25)] [rA b1 0 (vI a_.Err),fun wz => ((decide (a_.Err < 0)) = false ∧ True → V.at1 ⟨b1,0,none⟩ (vI a_.Err) wz),fun wz => (x23 = false ∧ True → V.at1 ⟨b1,2,none⟩ (vL g_a__0 a_.Texts) wz),fun wz => ((cond x24 true (decide (20000 < z8))) = false ∧ True → V.at1 ⟨b1,3,none⟩ (vL g_a__1 a_.Numbers) wz)] H (by subst hx23 hx24 hx25; kernel_rfl) ⟨((hS.bk 0 rfl).at1 rfl),fun hg => (hS.bk 0 rfl).at1 rfl,fun hg => (hS.bk 0 rfl).at1 rfl,fun hg => (hS.bk 0 rfl).at1 rfl,trivial⟩ fun _ _ H27 hb => ?_
  replace hS:=hS.below hb
  clear H hb
  replace hS : SH M X w [] _:=hS.sel [] rfl
  refine w_if H27 rfl (fun hc => ?c32) (fun hc => ?_)
  case c32 =>
   replace hm:=bT hc hm
   refine s_reg [] [2] [(2,[],vI 8)] [] H27 (by kernel_rfl) trivial fun _ _ H29 hb => ?_
   replace hS:=hS.below hb
   clear H27 hb
   apply w_ret
   obtain rfl:=someE hm
   exact retR1 H29 rfl rfl ⟨_,rfl,rfl,(hS.sel [] rfl)⟩
  replace hm:=bF hc hm
  apply w_skip
  refine s_reg [] [2] [(2,[],vI 0)] [] H27 (by kernel_rfl) trivial fun _ _ H31 hb => ?_
  replace hS:=hS.below hb
  clear H27 hb
  apply w_ret
  obtain rfl:=someE hm
  exact retR1 H31 rfl rfl ⟨_,rfl,rfl,(hS.sel [] rfl)⟩
theorem r40_Check_ok {g_a__0 : Gh} {g_a__1 : Gh} (m : Nat) (a_ : TAnswer) (r : Int) (hm : r40_Check m a_ = some r) (w : World) (hL : S0 F0 [eI tS a_.Texts g_a__0,eI (tI .i64) a_.Numbers g_a__1] w ∧ fpl [eI tS a_.Texts g_a__0,eI (tI .i64) a_.Numbers g_a__1] = []) : RetB Tryz.prog 34 ⟨[vG [vI a_.Err,vI a_.Num,vL g_a__0 a_.Texts,vL g_a__1 a_.Numbers]]⟩ (vI r) w:=retB_of hL (Tryz.call34 _) (fun w' h => r40_Check_w F0 m   a_ r hm w' h)

theorem r40_Log_w {g_l_ : Gh} (M : Av) (m : Nat) (l_ : List TAnswer) (r : Int) (hm : r40_Log m l_ = some r) (w : World) (hS : S0 M [eI tyAnswer l_ g_l_] w) : Calls Tryz.prog 17 ⟨[vL g_l_ l_]⟩ w (fun e w' => ∃ v,e = .returned v ∧ v = vI r ∧ SH M (fpl [eI tyAnswer l_ g_l_]) w [] w'):=by
 rw [r40_Log] at hm
 have hS0 : SH M (fpl [eI tyAnswer l_ g_l_]) w [eI tyAnswer l_ g_l_] w:=hS
 generalize hX : fpl [eI tyAnswer l_ g_l_] = X at hS0 ⊢
 clear hS hX
 have hS:=hS0
 clear hS0
 refine calls_entryP Tryz.func17 rfl Tryz.ntmps17 rfl fun _ H => ?_
 refine s_reg [] [0] [(0,[],vL g_l_ l_)] [] H (by kernel_rfl) trivial fun _ _ H2 hb => ?_
 replace hS:=hS.below hb
 clear H hb
 apply w_seq
 refine s_reg [] [0,7] (fS [0,7] [vL g_l_ l_,vB (decide (60 < (ln l_)))]) [] H2 (by kernel_rfl) trivial fun _ _ H4 hb => ?_
 replace hS:=hS.below hb
 clear H2 hb
 refine w_if H4 rfl (fun hc => ?c29) (fun hc => ?_)
 case c29 =>
  replace hm:=bT hc hm
  refine s_reg [] [2] [(2,[],vI 4)] [] H4 (by kernel_rfl) trivial fun _ _ H6 hb => ?_
  replace hS:=hS.below hb
  clear H4 hb
  replace hS : SH M X w [] _:=hS.sel [] rfl
  apply w_ret
  obtain rfl:=someE hm
  exact retR1 H6 rfl rfl ⟨_,rfl,rfl,(hS.sel [] rfl)⟩
 replace hm:=bF hc hm
 apply w_skip
 obtain ⟨z7,hz,hm_z7⟩:=bindE hm
 refine w_cut (fun a' w' => ∃ s_z7 : Unit,z7 = Sum.inr s_z7 ∧ Fr 22 [] a' ∧ SH M X w [eI tyAnswer l_ g_l_] w') ?_ ?_
 ·replace hm:=hz
  refine s_reg [] [0,3] (fS [0,3] [vL g_l_ l_,vI 0]) [] H4 (by kernel_rfl) trivial fun _ _ H9 hb => ?_
  replace hS:=hS.below hb
  clear H4 hb
  apply w_block
  refine w_loop (fun kk a' w' => ∃ (v10 : Int),r40_Log_L1 m l_ kk v10 = some _ ∧ Fr 22 (fS [0,3] [vL g_l_ l_,vI v10]) a' ∧ SH M X w [eI tyAnswer l_ g_l_] w') ⟨_,0,hm,FrG.keep (ks:=[0,3]) H9 (by kernel_rfl),hS⟩ ?_
  clear hm H9 hS
  rintro kk _ _ ⟨v10,hm,H,hS⟩
  cases kk with
  | zero => exact noneE hm
  | succ kk =>
   rw [r40_Log_L1] at hm
   apply w_seq
   refine s_reg [] [0,3,11] (fS [0,3,11] [vL g_l_ l_,vI v10,vB (decide (v10 < (ln l_)))]) [] H (by kernel_rfl) trivial fun _ _ H12 hb => ?_
   replace hS:=hS.below hb
   clear H hb
   refine w_if H12 rfl (fun hc => ?_) (fun hc => ?c24)
   case c24 =>
    replace hm:=bF hc hm
    apply w_exit rfl
    obtain rfl:=someE hm
    exact ⟨_,rfl,FrG.keep (ks:=[]) H12 (by kernel_rfl),hS⟩
   replace hm:=bT hc hm
   apply w_skip
   apply w_seq
   apply w_block
   obtain ⟨ho13,hm⟩:=chkE hm
   obtain ⟨y14,hy14,hm⟩:=bindE hm
   refine s_reg [(vG [vI ((gi l_ v10).Err),vI ((gi l_ v10).Num),.slice (g_l_.s (v10).toNat 0).a (((gi l_ v10).Texts).length) (g_l_.s (v10).toNat 0).c,.slice (g_l_.s (v10).toNat 1).a (((gi l_ v10).Numbers).length) (g_l_.s (v10).toNat 1).c]),(vI y14)] [0,3,4] (fS [0,3,4] [vL g_l_ l_,vI v10,vI y14]) [fun _ => oka g_l_.a ∧ 0 ≤ v10 ∧ v10 < ln l_,fun wz => V.atN (ab g_l_.a) (ao g_l_.a + (v10).toNat * 4) [vI ((gi l_ v10).Err),vI ((gi l_ v10).Num),.slice (g_l_.s (v10).toNat 0).a (((gi l_ v10).Texts).length) (g_l_.s (v10).toNat 0).c,.slice (g_l_.s (v10).toNat 1).a (((gi l_ v10).Numbers).length) (g_l_.s (v10).toNat 1).c] 0 wz,rB 34 [vG [vI ((gi l_ v10).Err),vI ((gi l_ v10).Num),.slice (g_l_.s (v10).toNat 0).a (((gi l_ v10).Texts).length) (g_l_.s (v10).toNat 0).c,.slice (g_l_.s (v10).toNat 1).a (((gi l_ v10).Numbers).length) (g_l_.s (v10).toNat 1).c]] (vI y14)] H12 (by kernel_rfl) ⟨((hS.im 0 rfl).oki ho13),((hS.im 0 rfl).atA ho13 0 rfl),(r40_Check_ok (g_a__0:=(g_l_.s (v10).toNat 0)) (g_a__1:=(g_l_.s (v10).toNat 1)) m _ _ hy14 _ (s0im (s0im s0nil (tyAnswer_i1 ((hS.im 0 rfl).el ho13))) (tyAnswer_i0 ((hS.im 0 rfl).el ho13)))),trivial⟩ fun _ _ H16 hb => ?_
   replace hS:=hS.below hb
   clear H12 hb
   refine s_reg [] [0,3,4,20] (fS [0,3,4,20] [vL g_l_ l_,vI v10,vI y14,vB (y14 != 0)]) [] H16 (by kernel_rfl) trivial fun _ _ H18 hb => ?_
   replace hS:=hS.below hb
   clear H16 hb
   refine w_if H18 rfl (fun hc => ?_) (fun hc => ?c23)
   case c23 =>
    replace hm:=bF hc hm
    apply w_skip
    refine w_reg [] [0,3] (fS [0,3] [vL g_l_ l_,vI (w64 (v10 + 1))]) [] H18 (by kernel_rfl) trivial fun _ _ H22 hb => ?_
    replace hS:=hS.below hb
    clear H18 hb
    exact ⟨_,Nat.lt_succ_self _,w64 (v10 + 1),hm,FrG.keep (ks:=[0,3]) H22 (by kernel_rfl),hS⟩
   replace hm:=bT hc hm
   refine s_reg [] [2] [(2,[],vI y14)] [] H18 (by kernel_rfl) trivial fun _ _ H20 hb => ?_
   replace hS:=hS.below hb
   clear H18 hb
   apply w_ret
   obtain rfl:=someE hm
   have hm:=hm_z7
   obtain rfl:=someE hm
   exact retR1 H20 rfl rfl ⟨_,rfl,rfl,(hS.sel [] rfl)⟩
 ·rintro _ _ ⟨s_z7,hz,H,hS⟩
  subst hz
  replace hm:=sumR hm_z7
  replace hS : SH M X w [] _:=hS.sel [] rfl
  refine s_reg [] [2] [(2,[],vI 0)] [] H (by kernel_rfl) trivial fun _ _ H27 hb => ?_
  replace hS:=hS.below hb
  clear H hb
  apply w_ret
  obtain rfl:=someE hm
  exact retR1 H27 rfl rfl ⟨_,rfl,rfl,(hS.sel [] rfl)⟩
theorem r40_Log_ok {g_l_ : Gh} (m : Nat) (l_ : List TAnswer) (r : Int) (hm : r40_Log m l_ = some r) (w : World) (hL : S0 F0 [eI tyAnswer l_ g_l_] w ∧ fpl [eI tyAnswer l_ g_l_] = []) : RetB Tryz.prog 17 ⟨[vL g_l_ l_]⟩ (vI r) w:=retB_of hL (Tryz.call17 _) (fun w' h => r40_Log_w F0 m   l_ r hm w' h)

theorem r40_Char_w  (M : Av) (c_ : Int) (r : Str) (hm : r40_Char c_ = some r) (w : World) (hS : S0 M [] w) : Calls Tryz.prog 55 ⟨[vU c_]⟩ w (fun e w' => ∃ v,e = .returned v ∧ v = vS r ∧ SH M (fpl []) w [] w'):=by
 rw [r40_Char] at hm
 have hS0 : SH M (fpl []) w [] w:=hS
 generalize hX : fpl [] = X at hS0 ⊢
 clear hS hX
 have hS:=hS0
 clear hS0
 refine calls_entryP Tryz.func55 rfl Tryz.ntmps55 rfl fun _ H => ?_
 refine s_reg [] [0] [(0,[],vU c_)] [] H (by kernel_rfl) trivial fun _ _ H2 hb => ?_
 replace hS:=hS.below hb
 clear H hb
 apply w_seq
 apply w_block
 refine s_reg [] [0,3] (fS [0,3] [vU c_,vB (cond (c_ == 34) true (c_ == 92))]) [] H2 (by kernel_rfl) trivial fun _ _ H4 hb => ?_
 replace hS:=hS.below hb
 clear H2 hb
 refine w_if H4 rfl (fun hc => ?c38) (fun hc => ?_)
 case c38 =>
  replace hm:=bT hc hm
  apply w_seq
  apply wl_start
  refine wl_batch 0 1 [] [10] [(10,[],vU c_)] [] H4 (by decide) (by kernel_rfl) trivial fun _ _ H6 hb => ?_
  replace hS:=hS.below hb
  clear H4 hb
  have hd:=hS.hand [] [] rfl rfl
  refine m_stp [11] [] H6 rfl rfl rfl rfl (o_lit (T:=(tI .u8)) (E:=5) (zv:=vU 0) [vU 92,vU c_] ([92,c_] : List Int) [gL [],gL []] _ H6 hd rfl (by kernel_rfl) (by kernel_rfl) (by kernel_rfl) (by kernel_rfl) (by kernel_rfl) (by kernel_rfl) (by kernel_rfl) rfl (InnL.cons trivial (InnL.cons trivial InnL.nil))) (fun _ => rfl) fun _ _ v H10 hq => ?_
  clear H6 hd
  obtain ⟨g7,rfl,hq⟩:=hq
  replace hS : SH M X w [eO 5 (tI .u8) ([92,c_] : List Int) g7] _:=hS.join [] [] rfl rfl hq
  clear hq
  refine wl_batch 2 4 [(vS (toB ([92,c_] : List Int)))] [2] [(2,[],vS (toB ([92,c_] : List Int)))] [fun wz => ∀ w',Below wz.heap.size wz w' → (convert 46 9 (vK g7 2)).run Tryz.prog w' = .ok (vS (toB ([92,c_] : List Int))) w'] H10 (by decide) (by kernel_rfl) ⟨(conv_slG (E:=5) (by kernel_rfl) (by kernel_rfl) (by kernel_rfl) (hS.osl 0 rfl)),trivial⟩ fun _ _ H12 hb => ?_
  replace hS:=hS.below hb
  clear H10 hb
  apply wl_end rfl
  replace hS : SH M X w [] _:=hS.sel [] rfl
  apply w_ret
  obtain rfl:=someE hm
  exact retR1 H12 rfl rfl ⟨_,rfl,rfl,(hS.sel [] rfl)⟩
 replace hm:=bF hc hm
 refine s_reg [] [0,13] (fS [0,13] [vU c_,vB (c_ == 10)]) [] H4 (by kernel_rfl) trivial fun _ _ H14 hb => ?_
 replace hS:=hS.below hb
 clear H4 hb
 refine w_if H14 rfl (fun hc => ?c37) (fun hc => ?_)
 case c37 =>
  replace hm:=bT hc hm
  refine s_reg [] [2] [(2,[],vS [92,110])] [] H14 (by kernel_rfl) trivial fun _ _ H16 hb => ?_
  replace hS:=hS.below hb
  clear H14 hb
  apply w_ret
  obtain rfl:=someE hm
  exact retR1 H16 rfl rfl ⟨_,rfl,rfl,(hS.sel [] rfl)⟩
 replace hm:=bF hc hm
 obtain ⟨x17,hx17,hm⟩:=letE hm
 refine s_reg [] [0,16] (fS [0,16] [vU c_,vB x17]) [] H14 (by subst hx17; kernel_rfl) trivial fun _ _ H19 hb => ?_
 replace hS:=hS.below hb
 clear H14 hb
 refine w_if H19 rfl (fun hc => ?_) (fun hc => ?c36)
 case c36 =>
  replace hm:=bF hc hm
  apply w_skip
  obtain ⟨ho28,hm⟩:=chkE hm
  obtain ⟨x29,hx29,hm⟩:=letE hm
  obtain ⟨ho30,hm⟩:=chkE hm
  obtain ⟨ho31,hm⟩:=chkE hm
  obtain ⟨x32,hx32,hm⟩:=letE hm
  obtain ⟨ho33,hm⟩:=chkE hm
  refine s_draw [] [2] [(2,[],vS (([92,120] ++ x29) ++ x32))] [fun _ => (16 : Int) ≠ 0,fun _ => (16 : Int) ≠ 0,fun _ => 0 ≤ (wu8 (Int.tdiv c_ 16)) ∧ (wu8 (Int.tdiv c_ 16)) ≤ (wu8 ((wu8 (Int.tdiv c_ 16)) + 1)) ∧ (wu8 ((wu8 (Int.tdiv c_ 16)) + 1)) ≤ ln [48,49,50,51,52,53,54,55,56,57,97,98,99,100,101,102],fun _ => ln [92,120] + ln x29 ≤ 9223372036854775807,fun _ => (16 : Int) ≠ 0,fun _ => (16 : Int) ≠ 0,fun _ => 0 ≤ (Int.tmod c_ 16) ∧ (Int.tmod c_ 16) ≤ (wu8 ((Int.tmod c_ 16) + 1)) ∧ (wu8 ((Int.tmod c_ 16) + 1)) ≤ ln [48,49,50,51,52,53,54,55,56,57,97,98,99,100,101,102],fun _ => ln ([92,120] ++ x29) + ln x32 ≤ 9223372036854775807] H19 (by kernel_rfl) (by kernel_rfl) (by subst hx29 hx32; kernel_rfl) ⟨(by show (16 : Int) ≠ 0; decide),(by show (16 : Int) ≠ 0; decide),ho28,ho30,(by show (16 : Int) ≠ 0; decide),(by show (16 : Int) ≠ 0; decide),ho31,ho33,trivial⟩ fun _ _ H35 hb => ?_
  replace hS:=hS.below hb
  clear H19 hb
  apply w_ret
  obtain rfl:=someE hm
  exact retR1 H35 rfl rfl ⟨_,rfl,rfl,(hS.sel [] rfl)⟩
 replace hm:=bT hc hm
 apply w_seq
 apply wl_start
 refine wl_batch 0 1 [] [23] [(23,[],vU c_)] [] H19 (by decide) (by kernel_rfl) trivial fun _ _ H21 hb => ?_
 replace hS:=hS.below hb
 clear H19 hb
 have hd:=hS.hand [] [] rfl rfl
 refine m_stp [24] [] H21 rfl rfl rfl rfl (o_lit (T:=(tI .u8)) (E:=5) (zv:=vU 0) [vU c_] ([c_] : List Int) [gL []] _ H21 hd rfl (by kernel_rfl) (by kernel_rfl) (by kernel_rfl) (by kernel_rfl) (by kernel_rfl) (by kernel_rfl) (by kernel_rfl) rfl (InnL.cons trivial InnL.nil)) (fun _ => rfl) fun _ _ v H25 hq => ?_
 clear H21 hd
 obtain ⟨g22,rfl,hq⟩:=hq
 replace hS : SH M X w [eO 5 (tI .u8) ([c_] : List Int) g22] _:=hS.join [] [] rfl rfl hq
 clear hq
 refine wl_batch 2 4 [(vS (toB ([c_] : List Int)))] [2] [(2,[],vS (toB ([c_] : List Int)))] [fun wz => ∀ w',Below wz.heap.size wz w' → (convert 46 9 (vK g22 1)).run Tryz.prog w' = .ok (vS (toB ([c_] : List Int))) w'] H25 (by decide) (by kernel_rfl) ⟨(conv_slG (E:=5) (by kernel_rfl) (by kernel_rfl) (by kernel_rfl) (hS.osl 0 rfl)),trivial⟩ fun _ _ H27 hb => ?_
 replace hS:=hS.below hb
 clear H25 hb
 apply wl_end rfl
 replace hS : SH M X w [] _:=hS.sel [] rfl
 apply w_ret
 obtain rfl:=someE hm
 exact retR1 H27 rfl rfl ⟨_,rfl,rfl,(hS.sel [] rfl)⟩
theorem r40_Char_ok  (c_ : Int) (r : Str) (hm : r40_Char c_ = some r) : Ret Tryz.prog 55 ⟨[vU c_]⟩ (vS r):=retP_of (Tryz.call55 _) (fun w h => r40_Char_w F0   c_ r hm w h)

theorem r40_Quoted_w  (M : Av) (m : Nat) (s : Str) (r : Str) (hm : r40_Quoted m s = some r) (w : World) (hS : S0 M [] w) : Calls Tryz.prog 35 ⟨[vS s]⟩ w (fun e w' => ∃ v,e = .returned v ∧ v = vS r ∧ SH M (fpl []) w [] w'):=by
 rw [r40_Quoted] at hm
 have hS0 : SH M (fpl []) w [] w:=hS
 generalize hX : fpl [] = X at hS0 ⊢
 clear hS hX
 have hS:=hS0
 clear hS0
 refine calls_entryP Tryz.func35 rfl Tryz.ntmps35 rfl fun _ H => ?_
 refine s_reg [] [0] [(0,[],vS s)] [] H (by kernel_rfl) trivial fun _ _ H2 hb => ?_
 replace hS:=hS.below hb
 clear H hb
 apply w_seq
 apply wl_start
 have hd:=hS.hand [] [] rfl rfl
 refine m_stp [5,0] [(0,[],vS s)] H2 rfl rfl rfl rfl (o_lit (T:=(tI .u8)) (E:=5) (zv:=vU 0) [vU 34] ([34] : List Int) [gL []] _ H2 hd rfl (by kernel_rfl) (by kernel_rfl) (by kernel_rfl) (by kernel_rfl) (by kernel_rfl) (by kernel_rfl) (by kernel_rfl) rfl (InnL.cons trivial InnL.nil)) (fun _ => rfl) fun _ _ v H6 hq => ?_
 clear H2 hd
 obtain ⟨g3,rfl,hq⟩:=hq
 replace hS : SH M X w [eO 5 (tI .u8) ([34] : List Int) g3] _:=hS.join [] [] rfl rfl hq
 clear hq
 refine wl_batch 1 2 [] [0,3] (fS [0,3] [vS s,vK g3 1]) [] H6 (by decide) (by kernel_rfl) trivial fun _ _ H8 hb => ?_
 replace hS:=hS.below hb
 clear H6 hb
 apply wl_end rfl
 obtain ⟨z9,hz,hm⟩:=bindE hm
 refine w_cut (fun a' w' => ∃ (g32 : Gh),Fr 22 [(3,[],vL g32 z9)] a' ∧ SH M X w [eO 5 (tI .u8) z9 g32] w') ?_ ?_
 ·replace hm:=hz
  refine s_reg [] [0,3,4] (fS [0,3,4] [vS s,vK g3 1,vI 0]) [] H8 (by kernel_rfl) trivial fun _ _ H11 hb => ?_
  replace hS:=hS.below hb
  clear H8 hb
  apply w_block
  refine w_loop (fun kk a' w' => ∃ (v12 : List Int) (v14 : Int) (g13 : Gh),r40_Quoted_L1 m s kk v12 v14 = some _ ∧ Fr 22 (fS [0,3,4] [vS s,vL g13 v12,vI v14]) a' ∧ SH M X w [eO 5 (tI .u8) v12 g13] w') ⟨_,([34] : List Int),0,g3,hm,FrG.keep (ks:=[0,3,4]) H11 (by kernel_rfl),hS⟩ ?_
  clear hm H11 hS
  rintro kk _ _ ⟨v12,v14,g13,hm,H,hS⟩
  cases kk with
  | zero => exact noneE hm
  | succ kk =>
   rw [r40_Quoted_L1] at hm
   apply w_seq
   refine s_reg [] [0,3,4,9] (fS [0,3,4,9] [vS s,vL g13 v12,vI v14,vB (decide (v14 < (ln s)))]) [] H (by kernel_rfl) trivial fun _ _ H16 hb => ?_
   replace hS:=hS.below hb
   clear H hb
   refine w_if H16 rfl (fun hc => ?_) (fun hc => ?c30)
   case c30 =>
    replace hm:=bF hc hm
    apply w_exit rfl
    obtain rfl:=someE hm
    exact ⟨g13,FrG.keep (ks:=[3]) H16 (by kernel_rfl),hS⟩
   replace hm:=bT hc hm
   apply w_skip
   apply w_seq
   apply w_block
   apply wl_start
   obtain ⟨ho17,hm⟩:=chkE hm
   obtain ⟨y18,hy18,hm⟩:=bindE hm
   refine wl_batch 0 5 [(vS y18)] [0,4,12,16] (fS [0,4,12,16] [vS s,vI v14,vL g13 v12,vS y18]) [fun _ => 0 ≤ v14 ∧ v14 < ln s,rB 55 [vU (bat s v14)] (vS y18)] H16 (by decide) (by kernel_rfl) ⟨ho17,((r40_Char_ok _ _ hy18).b),trivial⟩ fun _ _ H20 hb => ?_
   replace hS:=hS.below hb
   clear H16 hb
   obtain ⟨ho21,hm⟩:=chkE hm
   obtain ⟨q22,hq22,hm⟩:=letE hm
   have hd:=hS.hand [0] [] rfl rfl
   refine m_stp [17,0,4] (fS [0,4] [vS s,vI v14]) H20 rfl rfl rfl rfl (o_appS (g1:=g13) (l1:=v12) q22 hq22.symm H20 hd rfl rfl rfl rfl rfl (by kernel_rfl) (by kernel_rfl) (by kernel_rfl) ho21) (fun _ => rfl) fun _ _ v H24 hq => ?_
   clear H20 hd
   obtain ⟨g25,rfl,hq⟩:=hq
   replace hS : SH M X w [eO 5 (tI .u8) q22 g25] _:=hS.join [0] [] rfl rfl hq
   clear hq
   refine wl_batch 6 7 [] [0,3,4] (fS [0,3,4] [vS s,vL g25 q22,vI v14]) [] H24 (by decide) (by kernel_rfl) trivial fun _ _ H27 hb => ?_
   replace hS:=hS.below hb
   clear H24 hb
   apply wl_end rfl
   refine w_reg [] [0,3,4] (fS [0,3,4] [vS s,vL g25 q22,vI (w64 (v14 + 1))]) [] H27 (by kernel_rfl) trivial fun _ _ H29 hb => ?_
   replace hS:=hS.below hb
   clear H27 hb
   exact ⟨_,Nat.lt_succ_self _,q22,w64 (v14 + 1),g25,hm,FrG.keep (ks:=[0,3,4]) H29 (by kernel_rfl),hS⟩
 ·rintro _ _ ⟨g32,H,hS⟩
  apply w_seq
  apply wl_start
  refine wl_batch 0 1 [] [18] [(18,[],vL g32 z9)] [] H (by decide) (by kernel_rfl) trivial fun _ _ H34 hb => ?_
  replace hS:=hS.below hb
  clear H hb
  have hd:=hS.hand [] [0] rfl rfl
  refine m_stp [19,18] [(18,[],vL g32 z9)] H34 rfl rfl rfl rfl (o_lit (T:=(tI .u8)) (E:=5) (zv:=vU 0) [vU 34] ([34] : List Int) [gL []] _ H34 hd rfl (by kernel_rfl) (by kernel_rfl) (by kernel_rfl) (by kernel_rfl) (by kernel_rfl) (by kernel_rfl) (by kernel_rfl) rfl (InnL.cons trivial InnL.nil)) (fun _ => rfl) fun _ _ v H38 hq => ?_
  clear H34 hd
  obtain ⟨g35,rfl,hq⟩:=hq
  replace hS : SH M X w [eO 5 (tI .u8) ([34] : List Int) g35,eO 5 (tI .u8) z9 g32] _:=hS.join [] [0] rfl rfl hq
  clear hq
  obtain ⟨ho39,hm⟩:=chkE hm
  obtain ⟨q40,hq40,hm⟩:=letE hm
  have hd:=hS.hand [1,0] [] rfl rfl
  refine m_stp [20] [] H38 rfl rfl rfl rfl (o_app2 (T:=(tI .u8)) (zv:=vU 0) (g1:=g32) (g2:=g35) (l1:=z9) (l2:=([34] : List Int)) q40 hq40.symm H38 hd rfl rfl rfl rfl rfl rfl rfl (by kernel_rfl) (by kernel_rfl) rfl rfl ho39) (fun _ => rfl) fun _ _ v H42 hq => ?_
  clear H38 hd
  obtain ⟨g43,rfl,hq⟩:=hq
  replace hS : SH M X w [eO 5 (tI .u8) q40 g43,eO 5 (tI .u8) ([34] : List Int) g35] _:=hS.join [1,0] [] rfl rfl hq
  clear hq
  refine wl_batch 3 5 [(vS (toB q40))] [2] [(2,[],vS (toB q40))] [fun wz => ∀ w',Below wz.heap.size wz w' → (convert 46 9 (vL g43 q40)).run Tryz.prog w' = .ok (vS (toB q40)) w'] H42 (by decide) (by kernel_rfl) ⟨(conv_slG (E:=5) (by kernel_rfl) (by kernel_rfl) (by kernel_rfl) (hS.osl 0 rfl)),trivial⟩ fun _ _ H45 hb => ?_
  replace hS:=hS.below hb
  clear H42 hb
  apply wl_end rfl
  replace hS : SH M X w [] _:=hS.sel [] rfl
  apply w_ret
  obtain rfl:=someE hm
  exact retR1 H45 rfl rfl ⟨_,rfl,rfl,(hS.sel [] rfl)⟩
theorem r40_Quoted_ok  (m : Nat) (s : Str) (r : Str) (hm : r40_Quoted m s = some r) : Ret Tryz.prog 35 ⟨[vS s]⟩ (vS r):=retP_of (Tryz.call35 _) (fun w h => r40_Quoted_w F0 m   s r hm w h)

def r40_Number_S (rec_ : Int → Option (Str)) : Prop:=∀  (M : Av) (n_ : Int) (r : Str),rec_ n_ = some r → ∀ w,S0 M [] w → Calls Tryz.prog 36 ⟨[vI n_]⟩ w (fun e w' => ∃ v,e = .returned v ∧ v = vS r ∧ SH M (fpl []) w [] w')
theorem r40_Number_w (m : Nat) : ∀ (k : Nat),r40_Number_S (r40_Number_r m  k):=by
 intro k
 induction k with
 | zero => intro  M n_ r hm; exact noneE hm
 | succ k ih =>
  intro  M n_ r hm w hS
  rw [r40_Number_r] at hm
  have hS0 : SH M (fpl []) w [] w:=hS
  generalize hX : fpl [] = X at hS0 ⊢
  clear hS hX
  have hS:=hS0
  clear hS0
  refine calls_entryP Tryz.func36 rfl Tryz.ntmps36 rfl fun _ H => ?_
  refine s_reg [] [0] [(0,[],vI n_)] [] H (by kernel_rfl) trivial fun _ _ H2 hb => ?_
  replace hS:=hS.below hb
  clear H hb
  apply w_seq
  refine s_reg [] [0,5] (fS [0,5] [vI n_,vB (decide (n_ < 0))]) [] H2 (by kernel_rfl) trivial fun _ _ H4 hb => ?_
  replace hS:=hS.below hb
  clear H2 hb
  refine w_if H4 rfl (fun hc => ?_) (fun hc => ?c33)
  case c33 =>
   replace hm:=bF hc hm
   apply w_skip
   apply w_seq
   refine s_reg [] [0,26] (fS [0,26] [vI n_,vB (decide (n_ < 10))]) [] H4 (by kernel_rfl) trivial fun _ _ H21 hb => ?_
   replace hS:=hS.below hb
   clear H4 hb
   refine w_if H21 rfl (fun hc => ?c32) (fun hc => ?_)
   case c32 =>
    replace hm:=bT hc hm
    obtain ⟨ho22,hm⟩:=chkE hm
    obtain ⟨x23,hx23,hm⟩:=letE hm
    refine s_reg [] [2] [(2,[],vS x23)] [fun _ => 0 ≤ n_ ∧ n_ ≤ (w64 (n_ + 1)) ∧ (w64 (n_ + 1)) ≤ ln [48,49,50,51,52,53,54,55,56,57,97,98,99,100,101,102]] H21 (by subst hx23; kernel_rfl) ⟨ho22,trivial⟩ fun _ _ H25 hb => ?_
    replace hS:=hS.below hb
    clear H21 hb
    apply w_ret
    obtain rfl:=someE hm
    exact retR1 H25 rfl rfl ⟨_,rfl,rfl,(hS.sel [] rfl)⟩
   replace hm:=bF hc hm
   apply w_skip
   obtain ⟨y26,hy26,hm⟩:=bindE hm
   obtain ⟨ho27,hm⟩:=chkE hm
   obtain ⟨x28,hx28,hm⟩:=letE hm
   obtain ⟨ho29,hm⟩:=chkE hm
   refine s_draw [(vS y26)] [2] [(2,[],vS (y26 ++ x28))] [fun _ => (10 : Int) ≠ 0,rB 36 [vI (w64 (Int.tdiv n_ 10))] (vS y26),fun _ => (10 : Int) ≠ 0,fun _ => (10 : Int) ≠ 0,fun _ => 0 ≤ (Int.tmod n_ 10) ∧ (Int.tmod n_ 10) ≤ (w64 ((Int.tmod n_ 10) + 1)) ∧ (w64 ((Int.tmod n_ 10) + 1)) ≤ ln [48,49,50,51,52,53,54,55,56,57,97,98,99,100,101,102],fun _ => ln y26 + ln x28 ≤ 9223372036854775807] H21 (by kernel_rfl) (by kernel_rfl) (by subst hx28; kernel_rfl) ⟨(by show (10 : Int) ≠ 0; decide),(retB_of s0nil (Tryz.call36 _) (fun w' h' => ih  F0 _ _ hy26 w' h')),(by show (10 : Int) ≠ 0; decide),(by show (10 : Int) ≠ 0; decide),ho27,ho29,trivial⟩ fun _ _ H31 hb => ?_
   replace hS:=hS.below hb
   clear H21 hb
   apply w_ret
   obtain rfl:=someE hm
   exact retR1 H31 rfl rfl ⟨_,rfl,rfl,(hS.sel [] rfl)⟩
  replace hm:=bT hc hm
  obtain ⟨ho5,hm⟩:=chkE hm
  obtain ⟨x6,hx6,hm⟩:=letE hm
  refine s_reg [] [0,3] (fS [0,3] [vI n_,vS x6]) [fun _ => (10 : Int) ≠ 0,fun _ => (10 : Int) ≠ 0,fun _ => 0 ≤ (w64 (0 - (Int.tmod n_ 10))) ∧ (w64 (0 - (Int.tmod n_ 10))) ≤ (w64 ((w64 (0 - (Int.tmod n_ 10))) + 1)) ∧ (w64 ((w64 (0 - (Int.tmod n_ 10))) + 1)) ≤ ln [48,49,50,51,52,53,54,55,56,57,97,98,99,100,101,102]] H4 (by subst hx6; kernel_rfl) ⟨(by show (10 : Int) ≠ 0; decide),(by show (10 : Int) ≠ 0; decide),ho5,trivial⟩ fun _ _ H8 hb => ?_
  replace hS:=hS.below hb
  clear H4 hb
  apply w_seq
  refine s_reg [] [0,3,15] (fS [0,3,15] [vI n_,vS x6,vB (decide ((-10) < n_))]) [] H8 (by kernel_rfl) trivial fun _ _ H10 hb => ?_
  replace hS:=hS.below hb
  clear H8 hb
  refine w_if H10 rfl (fun hc => ?c19) (fun hc => ?_)
  case c19 =>
   replace hm:=bT hc hm
   obtain ⟨ho11,hm⟩:=chkE hm
   refine s_reg [] [2] [(2,[],vS ([45] ++ x6))] [fun _ => ln [45] + ln x6 ≤ 9223372036854775807] H10 (by kernel_rfl) ⟨ho11,trivial⟩ fun _ _ H13 hb => ?_
   replace hS:=hS.below hb
   clear H10 hb
   apply w_ret
   obtain rfl:=someE hm
   exact retR1 H13 rfl rfl ⟨_,rfl,rfl,(hS.sel [] rfl)⟩
  replace hm:=bF hc hm
  apply w_skip
  obtain ⟨y14,hy14,hm⟩:=bindE hm
  obtain ⟨ho15,hm⟩:=chkE hm
  obtain ⟨ho16,hm⟩:=chkE hm
  refine s_reg [(vS y14)] [2] [(2,[],vS (([45] ++ y14) ++ x6))] [fun _ => (10 : Int) ≠ 0,rB 36 [vI (w64 (0 - (w64 (Int.tdiv n_ 10))))] (vS y14),fun _ => ln [45] + ln y14 ≤ 9223372036854775807,fun _ => ln ([45] ++ y14) + ln x6 ≤ 9223372036854775807] H10 (by kernel_rfl) ⟨(by show (10 : Int) ≠ 0; decide),(retB_of s0nil (Tryz.call36 _) (fun w' h' => ih  F0 _ _ hy14 w' h')),ho15,ho16,trivial⟩ fun _ _ H18 hb => ?_
  replace hS:=hS.below hb
  clear H10 hb
  apply w_ret
  obtain rfl:=someE hm
  exact retR1 H18 rfl rfl ⟨_,rfl,rfl,(hS.sel [] rfl)⟩
theorem r40_Number_ok  (m : Nat) (n_ : Int) (r : Str) (hm : r40_Number m n_ = some r) : Ret Tryz.prog 36 ⟨[vI n_]⟩ (vS r):=retP_of (Tryz.call36 _) (fun w h => r40_Number_w m   m  F0 n_ r hm w h)

theorem r40_Listed_w {g_l_ : Gh} (M : Av) (m : Nat) (l_ : List Str) (r : Str) (hm : r40_Listed m l_ = some r) (w : World) (hS : S0 M [eI tS l_ g_l_] w) : Calls Tryz.prog 37 ⟨[vL g_l_ l_]⟩ w (fun e w' => ∃ v,e = .returned v ∧ v = vS r ∧ SH M (fpl [eI tS l_ g_l_]) w [] w'):=by
 rw [r40_Listed] at hm
 have hS0 : SH M (fpl [eI tS l_ g_l_]) w [eI tS l_ g_l_] w:=hS
 generalize hX : fpl [eI tS l_ g_l_] = X at hS0 ⊢
 clear hS hX
 have hS:=hS0
 clear hS0
 refine calls_entryP Tryz.func37 rfl Tryz.ntmps37 rfl fun _ H => ?_
 refine s_reg [] [0] [(0,[],vL g_l_ l_)] [] H (by kernel_rfl) trivial fun _ _ H2 hb => ?_
 replace hS:=hS.below hb
 clear H hb
 apply w_seq
 apply wl_start
 have hd:=hS.hand [] [0] rfl rfl
 refine m_stp [5,0] [(0,[],vL g_l_ l_)] H2 rfl rfl rfl rfl (o_lit (T:=(tI .u8)) (E:=5) (zv:=vU 0) [vU 91] ([91] : List Int) [gL []] _ H2 hd rfl (by kernel_rfl) (by kernel_rfl) (by kernel_rfl) (by kernel_rfl) (by kernel_rfl) (by kernel_rfl) (by kernel_rfl) rfl (InnL.cons trivial InnL.nil)) (fun _ => rfl) fun _ _ v H6 hq => ?_
 clear H2 hd
 obtain ⟨g3,rfl,hq⟩:=hq
 replace hS : SH M X w [eO 5 (tI .u8) ([91] : List Int) g3,eI tS l_ g_l_] _:=hS.join [] [0] rfl rfl hq
 clear hq
 refine wl_batch 1 2 [] [0,3] (fS [0,3] [vL g_l_ l_,vK g3 1]) [] H6 (by decide) (by kernel_rfl) trivial fun _ _ H8 hb => ?_
 replace hS:=hS.below hb
 clear H6 hb
 apply wl_end rfl
 obtain ⟨z9,hz,hm⟩:=bindE hm
 refine w_cut (fun a' w' => ∃ (g46 : Gh),Fr 26 [(3,[],vL g46 z9)] a' ∧ SH M X w [eO 5 (tI .u8) z9 g46,eI tS l_ g_l_] w') ?_ ?_
 ·replace hm:=hz
  refine s_reg [] [0,3,4] (fS [0,3,4] [vL g_l_ l_,vK g3 1,vI 0]) [] H8 (by kernel_rfl) trivial fun _ _ H11 hb => ?_
  replace hS:=hS.below hb
  clear H8 hb
  apply w_block
  refine w_loop (fun kk a' w' => ∃ (v12 : List Int) (v14 : Int) (g13 : Gh),r40_Listed_L1 m l_ kk v12 v14 = some _ ∧ Fr 26 (fS [0,3,4] [vL g_l_ l_,vL g13 v12,vI v14]) a' ∧ SH M X w [eO 5 (tI .u8) v12 g13,eI tS l_ g_l_] w') ⟨_,([91] : List Int),0,g3,hm,FrG.keep (ks:=[0,3,4]) H11 (by kernel_rfl),hS⟩ ?_
  clear hm H11 hS
  rintro kk _ _ ⟨v12,v14,g13,hm,H,hS⟩
  cases kk with
  | zero => exact noneE hm
  | succ kk =>
   rw [r40_Listed_L1] at hm
   apply w_seq
   refine s_reg [] [0,3,4,9] (fS [0,3,4,9] [vL g_l_ l_,vL g13 v12,vI v14,vB (decide (v14 < (ln l_)))]) [] H (by kernel_rfl) trivial fun _ _ H16 hb => ?_
   replace hS:=hS.below hb
   clear H hb
   refine w_if H16 rfl (fun hc => ?_) (fun hc => ?c44)
   case c44 =>
    replace hm:=bF hc hm
    apply w_exit rfl
    obtain rfl:=someE hm
    exact ⟨g13,FrG.keep (ks:=[3]) H16 (by kernel_rfl),hS⟩
   replace hm:=bT hc hm
   apply w_skip
   apply w_seq
   apply w_block
   obtain ⟨z17,hz,hm⟩:=bindE hm
   refine w_cut (fun a' w' => ∃ (g30 : Gh),Fr 26 (fS [0,4,3] [vL g_l_ l_,vI v14,vL g30 z17]) a' ∧ SH M X w [eO 5 (tI .u8) z17 g30,eI tS l_ g_l_] w') ?_ ?_
   ·replace hm:=hz
    refine s_reg [] [0,3,4,13] (fS [0,3,4,13] [vL g_l_ l_,vL g13 v12,vI v14,vB (decide (0 < v14))]) [] H16 (by kernel_rfl) trivial fun _ _ H19 hb => ?_
    replace hS:=hS.below hb
    clear H16 hb
    refine w_if H19 rfl (fun hc => ?_) (fun hc => ?c29)
    case c29 =>
     replace hm:=bF hc hm
     apply w_skip
     obtain rfl:=someE hm
     exact ⟨g13,FrG.keep (ks:=[0,4,3]) H19 (by kernel_rfl),hS⟩
    replace hm:=bT hc hm
    apply wl_start
    refine wl_batch 0 1 [] [0,4,14] (fS [0,4,14] [vL g_l_ l_,vI v14,vL g13 v12]) [] H19 (by decide) (by kernel_rfl) trivial fun _ _ H21 hb => ?_
    replace hS:=hS.below hb
    clear H19 hb
    obtain ⟨ho22,hm⟩:=chkE hm
    obtain ⟨q23,hq23,hm⟩:=letE hm
    have hd:=hS.hand [0] [1] rfl rfl
    refine m_stp [15,0,4] (fS [0,4] [vL g_l_ l_,vI v14]) H21 rfl rfl rfl rfl (o_appS (g1:=g13) (l1:=v12) q23 hq23.symm H21 hd rfl rfl rfl rfl rfl (by kernel_rfl) (by kernel_rfl) (by kernel_rfl) ho22) (fun _ => rfl) fun _ _ v H25 hq => ?_
    clear H21 hd
    obtain ⟨g26,rfl,hq⟩:=hq
    replace hS : SH M X w [eO 5 (tI .u8) q23 g26,eI tS l_ g_l_] _:=hS.join [0] [1] rfl rfl hq
    clear hq
    refine wl_batch 2 3 [] [0,3,4] (fS [0,3,4] [vL g_l_ l_,vL g26 q23,vI v14]) [] H25 (by decide) (by kernel_rfl) trivial fun _ _ H28 hb => ?_
    replace hS:=hS.below hb
    clear H25 hb
    apply wl_end rfl
    obtain rfl:=someE hm
    exact ⟨g26,FrG.keep (ks:=[0,4,3]) H28 (by kernel_rfl),hS⟩
   ·rintro _ _ ⟨g30,H,hS⟩
    apply wl_start
    obtain ⟨ho31,hm⟩:=chkE hm
    refine wl_batch 0 5 [(vS (gi l_ v14))] [0,4,16,20] (fS [0,4,16,20] [vL g_l_ l_,vI v14,vL g30 z17,vS (gi l_ v14)]) [fun _ => oka g_l_.a ∧ 0 ≤ v14 ∧ v14 < ln l_,fun wz => V.at1 ⟨ab g_l_.a,ao g_l_.a + (v14).toNat * 1,none⟩ (vS (gi l_ v14)) wz] H (by decide) (by kernel_rfl) ⟨((hS.im 1 rfl).oki ho31),((hS.im 1 rfl).at1 ho31 0 rfl),trivial⟩ fun _ _ H33 hb => ?_
    replace hS:=hS.below hb
    clear H hb
    obtain ⟨ho34,hm⟩:=chkE hm
    obtain ⟨q35,hq35,hm⟩:=letE hm
    have hd:=hS.hand [0] [1] rfl rfl
    refine m_stp [21,0,4] (fS [0,4] [vL g_l_ l_,vI v14]) H33 rfl rfl rfl rfl (o_appS (g1:=g30) (l1:=z17) q35 hq35.symm H33 hd rfl rfl rfl rfl rfl (by kernel_rfl) (by kernel_rfl) (by kernel_rfl) ho34) (fun _ => rfl) fun _ _ v H37 hq => ?_
    clear H33 hd
    obtain ⟨g38,rfl,hq⟩:=hq
    replace hS : SH M X w [eO 5 (tI .u8) q35 g38,eI tS l_ g_l_] _:=hS.join [0] [1] rfl rfl hq
    clear hq
    refine wl_batch 6 7 [] [0,3,4] (fS [0,3,4] [vL g_l_ l_,vL g38 q35,vI v14]) [] H37 (by decide) (by kernel_rfl) trivial fun _ _ H40 hb => ?_
    replace hS:=hS.below hb
    clear H37 hb
    apply wl_end rfl
    refine w_reg [] [0,3,4] (fS [0,3,4] [vL g_l_ l_,vL g38 q35,vI (w64 (v14 + 1))]) [] H40 (by kernel_rfl) trivial fun _ _ H42 hb => ?_
    replace hS:=hS.below hb
    clear H40 hb
    exact ⟨_,Nat.lt_succ_self _,q35,w64 (v14 + 1),g38,hm,FrG.keep (ks:=[0,3,4]) H42 (by kernel_rfl),hS⟩
 ·rintro _ _ ⟨g46,H,hS⟩
  replace hS : SH M X w [eO 5 (tI .u8) z9 g46] _:=hS.sel [0] rfl
  apply w_seq
  apply wl_start
  refine wl_batch 0 1 [] [22] [(22,[],vL g46 z9)] [] H (by decide) (by kernel_rfl) trivial fun _ _ H48 hb => ?_
  replace hS:=hS.below hb
  clear H hb
  have hd:=hS.hand [] [0] rfl rfl
  refine m_stp [23,22] [(22,[],vL g46 z9)] H48 rfl rfl rfl rfl (o_lit (T:=(tI .u8)) (E:=5) (zv:=vU 0) [vU 93] ([93] : List Int) [gL []] _ H48 hd rfl (by kernel_rfl) (by kernel_rfl) (by kernel_rfl) (by kernel_rfl) (by kernel_rfl) (by kernel_rfl) (by kernel_rfl) rfl (InnL.cons trivial InnL.nil)) (fun _ => rfl) fun _ _ v H52 hq => ?_
  clear H48 hd
  obtain ⟨g49,rfl,hq⟩:=hq
  replace hS : SH M X w [eO 5 (tI .u8) ([93] : List Int) g49,eO 5 (tI .u8) z9 g46] _:=hS.join [] [0] rfl rfl hq
  clear hq
  obtain ⟨ho53,hm⟩:=chkE hm
  obtain ⟨q54,hq54,hm⟩:=letE hm
  have hd:=hS.hand [1,0] [] rfl rfl
  refine m_stp [24] [] H52 rfl rfl rfl rfl (o_app2 (T:=(tI .u8)) (zv:=vU 0) (g1:=g46) (g2:=g49) (l1:=z9) (l2:=([93] : List Int)) q54 hq54.symm H52 hd rfl rfl rfl rfl rfl rfl rfl (by kernel_rfl) (by kernel_rfl) rfl rfl ho53) (fun _ => rfl) fun _ _ v H56 hq => ?_
  clear H52 hd
  obtain ⟨g57,rfl,hq⟩:=hq
  replace hS : SH M X w [eO 5 (tI .u8) q54 g57,eO 5 (tI .u8) ([93] : List Int) g49] _:=hS.join [1,0] [] rfl rfl hq
  clear hq
  refine wl_batch 3 5 [(vS (toB q54))] [2] [(2,[],vS (toB q54))] [fun wz => ∀ w',Below wz.heap.size wz w' → (convert 46 9 (vL g57 q54)).run Tryz.prog w' = .ok (vS (toB q54)) w'] H56 (by decide) (by kernel_rfl) ⟨(conv_slG (E:=5) (by kernel_rfl) (by kernel_rfl) (by kernel_rfl) (hS.osl 0 rfl)),trivial⟩ fun _ _ H59 hb => ?_
  replace hS:=hS.below hb
  clear H56 hb
  apply wl_end rfl
  replace hS : SH M X w [] _:=hS.sel [] rfl
  apply w_ret
  obtain rfl:=someE hm
  exact retR1 H59 rfl rfl ⟨_,rfl,rfl,(hS.sel [] rfl)⟩
theorem r40_Listed_ok {g_l_ : Gh} (m : Nat) (l_ : List Str) (r : Str) (hm : r40_Listed m l_ = some r) (w : World) (hL : S0 F0 [eI tS l_ g_l_] w ∧ fpl [eI tS l_ g_l_] = []) : RetB Tryz.prog 37 ⟨[vL g_l_ l_]⟩ (vS r) w:=retB_of hL (Tryz.call37 _) (fun w' h => r40_Listed_w F0 m   l_ r hm w' h)

theorem r40_Shown_w {g_a__0 : Gh} {g_a__1 : Gh} (M : Av) (m : Nat) (a_ : TAnswer) (r : Str) (hm : r40_Shown m a_ = some r) (w : World) (hS : S0 M [eI tS a_.Texts g_a__0,eI (tI .i64) a_.Numbers g_a__1] w) : Calls Tryz.prog 18 ⟨[vG [vI a_.Err,vI a_.Num,vL g_a__0 a_.Texts,vL g_a__1 a_.Numbers]]⟩ w (fun e w' => ∃ v,e = .returned v ∧ v = vS r ∧ SH M (fpl [eI tS a_.Texts g_a__0,eI (tI .i64) a_.Numbers g_a__1]) w [] w'):=by
 rw [r40_Shown] at hm
 have hS0 : SH M (fpl [eI tS a_.Texts g_a__0,eI (tI .i64) a_.Numbers g_a__1]) w [eI tS a_.Texts g_a__0,eI (tI .i64) a_.Numbers g_a__1] w:=hS
 generalize hX : fpl [eI tS a_.Texts g_a__0,eI (tI .i64) a_.Numbers g_a__1] = X at hS0 ⊢
 clear hS hX
 have hS:=hS0
 clear hS0
 refine calls_entryP Tryz.func18 rfl Tryz.ntmps18 rfl fun _ H => ?_
 apply w_seq
 apply wl_start
 have hd:=hS.hand [] [0,1] rfl rfl
 refine m_stp [1] [] H rfl rfl rfl rfl (o_box [vI a_.Err,vI a_.Num,vL g_a__0 a_.Texts,vL g_a__1 a_.Numbers] H hd rfl rfl) (fun _ => rfl) fun _ _ v H3 hq => ?_
 clear H hd
 obtain ⟨b1,rfl,hq⟩:=hq
 replace hS : SH M X w [eB b1 [vI a_.Err,vI a_.Num,vL g_a__0 a_.Texts,vL g_a__1 a_.Numbers],eI tS a_.Texts g_a__0,eI (tI .i64) a_.Numbers g_a__1] _:=hS.join [] [0,1] rfl rfl hq
 clear hq
 refine wl_batch 1 2 [] [1] [(1,[],vP b1)] [] H3 (by decide) (by kernel_rfl) trivial fun _ _ H5 hb => ?_
 replace hS:=hS.below hb
 clear H3 hb
 apply wl_end rfl
 refine s_reg [] [1,3,4] (fS [1,3,4] [vP b1,vO,vO]) [] H5 (by kernel_rfl) trivial fun _ _ H7 hb => ?_
 replace hS:=hS.below hb
 clear H5 hb
 obtain ⟨z8,hz,hm⟩:=bindE hm
 refine w_cut (fun a' w' => ∃ (g36 : Gh),Fr 55 (fS [1,4,3] [vP b1,vO,vL g36 z8]) a' ∧ SH M X w [eO 9 tS z8 g36,eB b1 [vI a_.Err,vI a_.Num,vL g_a__0 a_.Texts,vL g_a__1 a_.Numbers],eI tS a_.Texts g_a__0,eI (tI .i64) a_.Numbers g_a__1] w') ?_ ?_
 ·replace hm:=hz
  refine s_reg [] [1,3,4,5] (fS [1,3,4,5] [vP b1,vO,vO,vI 0]) [] H7 (by kernel_rfl) trivial fun _ _ H10 hb => ?_
  replace hS:=hS.below hb
  clear H7 hb
  apply w_block
  replace hS : SH M X w [eO 9 tS ([] : List Str) (.nil),eB b1 [vI a_.Err,vI a_.Num,vL g_a__0 a_.Texts,vL g_a__1 a_.Numbers],eI tS a_.Texts g_a__0,eI (tI .i64) a_.Numbers g_a__1] _:=hS.addNil 9 tS
  refine w_loop (fun kk a' w' => ∃ (v12 : List Str) (v14 : Int) (g13 : Gh),r40_Shown_L1 m a_ kk v12 v14 = some _ ∧ Fr 55 (fS [1,4,3,5] [vP b1,vO,vL g13 v12,vI v14]) a' ∧ SH M X w [eO 9 tS v12 g13,eB b1 [vI a_.Err,vI a_.Num,vL g_a__0 a_.Texts,vL g_a__1 a_.Numbers],eI tS a_.Texts g_a__0,eI (tI .i64) a_.Numbers g_a__1] w') ⟨_,([] : List Str),0,Gh.nil,hm,FrG.keep (ks:=[1,4,3,5]) H10 (by kernel_rfl),hS⟩ ?_
  clear hm H10 hS
  rintro kk _ _ ⟨v12,v14,g13,hm,H,hS⟩
  cases kk with
  | zero => exact noneE hm
  | succ kk =>
   rw [r40_Shown_L1] at hm
   apply w_seq
   refine s_reg [(vL g_a__0 a_.Texts)] [1,3,4,5,11] (fS [1,3,4,5,11] [vP b1,vL g13 v12,vO,vI v14,vB (decide (v14 < (ln a_.Texts)))]) [rA b1 2 (vL g_a__0 a_.Texts)] H (by kernel_rfl) ⟨((hS.bk 1 rfl).at1 rfl),trivial⟩ fun _ _ H16 hb => ?_
   replace hS:=hS.below hb
   clear H hb
   refine w_if H16 rfl (fun hc => ?_) (fun hc => ?c34)
   case c34 =>
    replace hm:=bF hc hm
    apply w_exit rfl
    obtain rfl:=someE hm
    exact ⟨g13,FrG.keep (ks:=[1,4,3]) H16 (by kernel_rfl),hS⟩
   replace hm:=bT hc hm
   apply w_skip
   apply w_seq
   apply w_block
   apply wl_start
   obtain ⟨ho17,hm⟩:=chkE hm
   obtain ⟨y18,hy18,hm⟩:=bindE hm
   refine wl_batch 0 7 [(vL g_a__0 a_.Texts),(vS (gi a_.Texts v14)),(vS y18)] [1,4,5,14,20] (fS [1,4,5,14,20] [vP b1,vO,vI v14,vL g13 v12,vS y18]) [rA b1 2 (vL g_a__0 a_.Texts),fun _ => oka g_a__0.a ∧ 0 ≤ v14 ∧ v14 < ln a_.Texts,fun wz => V.at1 ⟨ab g_a__0.a,ao g_a__0.a + (v14).toNat * 1,none⟩ (vS (gi a_.Texts v14)) wz,rB 35 [vS (gi a_.Texts v14)] (vS y18)] H16 (by decide) (by kernel_rfl) ⟨((hS.bk 1 rfl).at1 rfl),((hS.im 2 rfl).oki ho17),((hS.im 2 rfl).at1 ho17 0 rfl),((r40_Quoted_ok m _ _ hy18).b),trivial⟩ fun _ _ H20 hb => ?_
   replace hS:=hS.below hb
   clear H16 hb
   have hd:=hS.hand [] [0,1,2,3] rfl rfl
   refine m_stp [21,1,4,5,14] (fS [1,4,5,14] [vP b1,vO,vI v14,vL g13 v12]) H20 rfl rfl rfl rfl (o_lit (T:=tS) (E:=9) (zv:=vN) [vS y18] ([y18] : List Str) [gL []] _ H20 hd rfl (by kernel_rfl) (by kernel_rfl) (by kernel_rfl) (by kernel_rfl) (by kernel_rfl) (by kernel_rfl) (by kernel_rfl) rfl (InnL.cons trivial InnL.nil)) (fun _ => rfl) fun _ _ v H24 hq => ?_
   clear H20 hd
   obtain ⟨g21,rfl,hq⟩:=hq
   replace hS : SH M X w [eO 9 tS ([y18] : List Str) g21,eO 9 tS v12 g13,eB b1 [vI a_.Err,vI a_.Num,vL g_a__0 a_.Texts,vL g_a__1 a_.Numbers],eI tS a_.Texts g_a__0,eI (tI .i64) a_.Numbers g_a__1] _:=hS.join [] [0,1,2,3] rfl rfl hq
   clear hq
   obtain ⟨ho25,hm⟩:=chkE hm
   obtain ⟨q26,hq26,hm⟩:=letE hm
   have hd:=hS.hand [1,0] [2,3,4] rfl rfl
   refine m_stp [22,1,4,5] (fS [1,4,5] [vP b1,vO,vI v14]) H24 rfl rfl rfl rfl (o_app2 (T:=tS) (zv:=vN) (g1:=g13) (g2:=g21) (l1:=v12) (l2:=([y18] : List Str)) q26 hq26.symm H24 hd rfl rfl rfl rfl rfl rfl rfl (by kernel_rfl) (by kernel_rfl) rfl rfl ho25) (fun _ => rfl) fun _ _ v H28 hq => ?_
   clear H24 hd
   obtain ⟨g29,rfl,hq⟩:=hq
   replace hS : SH M X w [eO 9 tS q26 g29,eO 9 tS ([y18] : List Str) g21,eB b1 [vI a_.Err,vI a_.Num,vL g_a__0 a_.Texts,vL g_a__1 a_.Numbers],eI tS a_.Texts g_a__0,eI (tI .i64) a_.Numbers g_a__1] _:=hS.join [1,0] [2,3,4] rfl rfl hq
   clear hq
   refine wl_batch 9 10 [] [1,3,4,5] (fS [1,3,4,5] [vP b1,vL g29 q26,vO,vI v14]) [] H28 (by decide) (by kernel_rfl) trivial fun _ _ H31 hb => ?_
   replace hS:=hS.below hb
   clear H28 hb
   apply wl_end rfl
   replace hS : SH M X w [eO 9 tS q26 g29,eB b1 [vI a_.Err,vI a_.Num,vL g_a__0 a_.Texts,vL g_a__1 a_.Numbers],eI tS a_.Texts g_a__0,eI (tI .i64) a_.Numbers g_a__1] _:=hS.sel [0,2,3,4] rfl
   refine w_reg [] [1,3,4,5] (fS [1,3,4,5] [vP b1,vL g29 q26,vO,vI (w64 (v14 + 1))]) [] H31 (by kernel_rfl) trivial fun _ _ H33 hb => ?_
   replace hS:=hS.below hb
   clear H31 hb
   exact ⟨_,Nat.lt_succ_self _,q26,w64 (v14 + 1),g29,hm,FrG.keep (ks:=[1,4,3,5]) H33 (by kernel_rfl),hS⟩
 ·rintro _ _ ⟨g36,H,hS⟩
  obtain ⟨z38,hz,hm⟩:=bindE hm
  refine w_cut (fun a' w' => ∃ (g66 : Gh),Fr 55 (fS [1,3,4] [vP b1,vL g36 z8,vL g66 z38]) a' ∧ SH M X w [eO 9 tS z38 g66,eO 9 tS z8 g36,eB b1 [vI a_.Err,vI a_.Num,vL g_a__0 a_.Texts,vL g_a__1 a_.Numbers],eI tS a_.Texts g_a__0,eI (tI .i64) a_.Numbers g_a__1] w') ?_ ?_
  ·replace hm:=hz
   refine s_reg [] [1,3,4,6] (fS [1,3,4,6] [vP b1,vL g36 z8,vO,vI 0]) [] H (by kernel_rfl) trivial fun _ _ H40 hb => ?_
   replace hS:=hS.below hb
   clear H hb
   apply w_block
   replace hS : SH M X w [eO 9 tS ([] : List Str) (.nil),eO 9 tS z8 g36,eB b1 [vI a_.Err,vI a_.Num,vL g_a__0 a_.Texts,vL g_a__1 a_.Numbers],eI tS a_.Texts g_a__0,eI (tI .i64) a_.Numbers g_a__1] _:=hS.addNil 9 tS
   refine w_loop (fun kk a' w' => ∃ (v42 : List Str) (v44 : Int) (g43 : Gh),r40_Shown_L2 m a_ kk v42 v44 = some _ ∧ Fr 55 (fS [1,3,4,6] [vP b1,vL g36 z8,vL g43 v42,vI v44]) a' ∧ SH M X w [eO 9 tS v42 g43,eO 9 tS z8 g36,eB b1 [vI a_.Err,vI a_.Num,vL g_a__0 a_.Texts,vL g_a__1 a_.Numbers],eI tS a_.Texts g_a__0,eI (tI .i64) a_.Numbers g_a__1] w') ⟨_,([] : List Str),0,Gh.nil,hm,FrG.keep (ks:=[1,3,4,6]) H40 (by kernel_rfl),hS⟩ ?_
   clear hm H40 hS
   rintro kk _ _ ⟨v42,v44,g43,hm,H,hS⟩
   cases kk with
   | zero => exact noneE hm
   | succ kk =>
    rw [r40_Shown_L2] at hm
    apply w_seq
    refine s_reg [(vL g_a__1 a_.Numbers)] [1,3,4,6,27] (fS [1,3,4,6,27] [vP b1,vL g36 z8,vL g43 v42,vI v44,vB (decide (v44 < (ln a_.Numbers)))]) [rA b1 3 (vL g_a__1 a_.Numbers)] H (by kernel_rfl) ⟨((hS.bk 2 rfl).at1 rfl),trivial⟩ fun _ _ H46 hb => ?_
    replace hS:=hS.below hb
    clear H hb
    refine w_if H46 rfl (fun hc => ?_) (fun hc => ?c64)
    case c64 =>
     replace hm:=bF hc hm
     apply w_exit rfl
     obtain rfl:=someE hm
     exact ⟨g43,FrG.keep (ks:=[1,3,4]) H46 (by kernel_rfl),hS⟩
    replace hm:=bT hc hm
    apply w_skip
    apply w_seq
    apply w_block
    apply wl_start
    obtain ⟨ho47,hm⟩:=chkE hm
    obtain ⟨y48,hy48,hm⟩:=bindE hm
    refine wl_batch 0 7 [(vL g_a__1 a_.Numbers),(vI (gi a_.Numbers v44)),(vS y48)] [1,3,6,30,36] (fS [1,3,6,30,36] [vP b1,vL g36 z8,vI v44,vL g43 v42,vS y48]) [rA b1 3 (vL g_a__1 a_.Numbers),fun _ => oka g_a__1.a ∧ 0 ≤ v44 ∧ v44 < ln a_.Numbers,fun wz => V.at1 ⟨ab g_a__1.a,ao g_a__1.a + (v44).toNat * 1,none⟩ (vI (gi a_.Numbers v44)) wz,rB 36 [vI (gi a_.Numbers v44)] (vS y48)] H46 (by decide) (by kernel_rfl) ⟨((hS.bk 2 rfl).at1 rfl),((hS.im 4 rfl).oki ho47),((hS.im 4 rfl).at1 ho47 0 rfl),((r40_Number_ok m _ _ hy48).b),trivial⟩ fun _ _ H50 hb => ?_
    replace hS:=hS.below hb
    clear H46 hb
    have hd:=hS.hand [] [0,1,2,3,4] rfl rfl
    refine m_stp [37,1,3,6,30] (fS [1,3,6,30] [vP b1,vL g36 z8,vI v44,vL g43 v42]) H50 rfl rfl rfl rfl (o_lit (T:=tS) (E:=9) (zv:=vN) [vS y48] ([y48] : List Str) [gL []] _ H50 hd rfl (by kernel_rfl) (by kernel_rfl) (by kernel_rfl) (by kernel_rfl) (by kernel_rfl) (by kernel_rfl) (by kernel_rfl) rfl (InnL.cons trivial InnL.nil)) (fun _ => rfl) fun _ _ v H54 hq => ?_
    clear H50 hd
    obtain ⟨g51,rfl,hq⟩:=hq
    replace hS : SH M X w [eO 9 tS ([y48] : List Str) g51,eO 9 tS v42 g43,eO 9 tS z8 g36,eB b1 [vI a_.Err,vI a_.Num,vL g_a__0 a_.Texts,vL g_a__1 a_.Numbers],eI tS a_.Texts g_a__0,eI (tI .i64) a_.Numbers g_a__1] _:=hS.join [] [0,1,2,3,4] rfl rfl hq
    clear hq
    obtain ⟨ho55,hm⟩:=chkE hm
    obtain ⟨q56,hq56,hm⟩:=letE hm
    have hd:=hS.hand [1,0] [2,3,4,5] rfl rfl
    refine m_stp [38,1,3,6] (fS [1,3,6] [vP b1,vL g36 z8,vI v44]) H54 rfl rfl rfl rfl (o_app2 (T:=tS) (zv:=vN) (g1:=g43) (g2:=g51) (l1:=v42) (l2:=([y48] : List Str)) q56 hq56.symm H54 hd rfl rfl rfl rfl rfl rfl rfl (by kernel_rfl) (by kernel_rfl) rfl rfl ho55) (fun _ => rfl) fun _ _ v H58 hq => ?_
    clear H54 hd
    obtain ⟨g59,rfl,hq⟩:=hq
    replace hS : SH M X w [eO 9 tS q56 g59,eO 9 tS ([y48] : List Str) g51,eO 9 tS z8 g36,eB b1 [vI a_.Err,vI a_.Num,vL g_a__0 a_.Texts,vL g_a__1 a_.Numbers],eI tS a_.Texts g_a__0,eI (tI .i64) a_.Numbers g_a__1] _:=hS.join [1,0] [2,3,4,5] rfl rfl hq
    clear hq
    refine wl_batch 9 10 [] [1,3,4,6] (fS [1,3,4,6] [vP b1,vL g36 z8,vL g59 q56,vI v44]) [] H58 (by decide) (by kernel_rfl) trivial fun _ _ H61 hb => ?_
    replace hS:=hS.below hb
    clear H58 hb
    apply wl_end rfl
    replace hS : SH M X w [eO 9 tS q56 g59,eO 9 tS z8 g36,eB b1 [vI a_.Err,vI a_.Num,vL g_a__0 a_.Texts,vL g_a__1 a_.Numbers],eI tS a_.Texts g_a__0,eI (tI .i64) a_.Numbers g_a__1] _:=hS.sel [0,2,3,4,5] rfl
    refine w_reg [] [1,3,4,6] (fS [1,3,4,6] [vP b1,vL g36 z8,vL g59 q56,vI (w64 (v44 + 1))]) [] H61 (by kernel_rfl) trivial fun _ _ H63 hb => ?_
    replace hS:=hS.below hb
    clear H61 hb
    exact ⟨_,Nat.lt_succ_self _,q56,w64 (v44 + 1),g59,hm,FrG.keep (ks:=[1,3,4,6]) H63 (by kernel_rfl),hS⟩
  ·rintro _ _ ⟨g66,H,hS⟩
   obtain ⟨y68,hy68,hm⟩:=bindE hm
   obtain ⟨ho69,hm⟩:=chkE hm
   obtain ⟨y70,hy70,hm⟩:=bindE hm
   obtain ⟨ho71,hm⟩:=chkE hm
   obtain ⟨ho72,hm⟩:=chkE hm
   obtain ⟨y73,hy73,hm⟩:=bindE hm
   obtain ⟨ho74,hm⟩:=chkE hm
   obtain ⟨ho75,hm⟩:=chkE hm
   obtain ⟨x76,hx76,hm⟩:=letE hm
   obtain ⟨y77,hy77,hm⟩:=bindE hm
   obtain ⟨ho78,hm⟩:=chkE hm
   refine s_draw [(vI a_.Err),(vS y68),(vI a_.Num),(vS y70),(vS y73),(vS y77)] [2] [(2,[],vS (x76 ++ y77))] [rA b1 0 (vI a_.Err),rB 36 [vI a_.Err] (vS y68),fun _ => ln y68 + ln [32] ≤ 9223372036854775807,rA b1 1 (vI a_.Num),rB 36 [vI a_.Num] (vS y70),fun _ => ln (y68 ++ [32]) + ln y70 ≤ 9223372036854775807,fun _ => ln ((y68 ++ [32]) ++ y70) + ln [32] ≤ 9223372036854775807,rB 37 [vL g36 z8] (vS y73),fun _ => ln (((y68 ++ [32]) ++ y70) ++ [32]) + ln y73 ≤ 9223372036854775807,fun _ => ln ((((y68 ++ [32]) ++ y70) ++ [32]) ++ y73) + ln [32] ≤ 9223372036854775807,rB 37 [vL g66 z38] (vS y77),fun _ => ln x76 + ln y77 ≤ 9223372036854775807] H (by kernel_rfl) (by kernel_rfl) (by subst hx76; kernel_rfl) ⟨((hS.bk 2 rfl).at1 rfl),((r40_Number_ok m _ _ hy68).b),ho69,((hS.bk 2 rfl).at1 rfl),((r40_Number_ok m _ _ hy70).b),ho71,ho72,(r40_Listed_ok (g_l_:=g36) m _ _ hy73 _ (s0im s0nil (hS.osl 1 rfl))),ho74,ho75,(r40_Listed_ok (g_l_:=g66) m _ _ hy77 _ (s0im s0nil (hS.osl 0 rfl))),ho78,trivial⟩ fun _ _ H80 hb => ?_
   replace hS:=hS.below hb
   clear H hb
   replace hS : SH M X w [] _:=hS.sel [] rfl
   apply w_ret
   obtain rfl:=someE hm
   exact retR1 H80 rfl rfl ⟨_,rfl,rfl,(hS.sel [] rfl)⟩
theorem r40_Shown_ok {g_a__0 : Gh} {g_a__1 : Gh} (m : Nat) (a_ : TAnswer) (r : Str) (hm : r40_Shown m a_ = some r) (w : World) (hL : S0 F0 [eI tS a_.Texts g_a__0,eI (tI .i64) a_.Numbers g_a__1] w ∧ fpl [eI tS a_.Texts g_a__0,eI (tI .i64) a_.Numbers g_a__1] = []) : RetB Tryz.prog 18 ⟨[vG [vI a_.Err,vI a_.Num,vL g_a__0 a_.Texts,vL g_a__1 a_.Numbers]]⟩ (vS r) w:=retB_of hL (Tryz.call18 _) (fun w' h => r40_Shown_w F0 m   a_ r hm w' h)

theorem r40_Text_w {g_l_ : Gh} (M : Av) (m : Nat) (l_ : List TAnswer) (r : Str × Int) (hm : r40_Text m l_ = some r) (w : World) (hS : S0 M [eI tyAnswer l_ g_l_] w) : Calls Tryz.prog 6 ⟨[vL g_l_ l_]⟩ w (fun e w' => ∃ v,e = .returned v ∧ v = vW [vS r.1,vI r.2] ∧ SH M (fpl [eI tyAnswer l_ g_l_]) w [] w'):=by
 rw [r40_Text] at hm
 have hS0 : SH M (fpl [eI tyAnswer l_ g_l_]) w [eI tyAnswer l_ g_l_] w:=hS
 generalize hX : fpl [eI tyAnswer l_ g_l_] = X at hS0 ⊢
 clear hS hX
 have hS:=hS0
 clear hS0
 refine calls_entryP Tryz.func6 rfl Tryz.ntmps6 rfl fun _ H => ?_
 refine s_reg [] [0] [(0,[],vL g_l_ l_)] [] H (by kernel_rfl) trivial fun _ _ H2 hb => ?_
 replace hS:=hS.below hb
 clear H hb
 apply w_seq
 obtain ⟨y3,hy3,hm⟩:=bindE hm
 refine s_reg [(vI y3)] [0,4] (fS [0,4] [vL g_l_ l_,vI y3]) [rB 17 [vL g_l_ l_] (vI y3)] H2 (by kernel_rfl) ⟨(r40_Log_ok (g_l_:=g_l_) m _ _ hy3 _ (s0im s0nil (hS.im 0 rfl))),trivial⟩ fun _ _ H5 hb => ?_
 replace hS:=hS.below hb
 clear H2 hb
 refine s_reg [] [0,4,10] (fS [0,4,10] [vL g_l_ l_,vI y3,vB (y3 != 0)]) [] H5 (by kernel_rfl) trivial fun _ _ H7 hb => ?_
 replace hS:=hS.below hb
 clear H5 hb
 refine w_if H7 rfl (fun hc => ?c32) (fun hc => ?_)
 case c32 =>
  replace hm:=bT hc hm
  refine s_reg [] [2,3] (fS [2,3] [vN,vI y3]) [] H7 (by kernel_rfl) trivial fun _ _ H9 hb => ?_
  replace hS:=hS.below hb
  clear H7 hb
  replace hS : SH M X w [] _:=hS.sel [] rfl
  apply w_ret
  obtain rfl:=someE hm
  exact retR2 H9 rfl rfl rfl ⟨_,rfl,rfl,(hS.sel [] rfl)⟩
 replace hm:=bF hc hm
 apply w_skip
 refine s_reg [] [0,5] (fS [0,5] [vL g_l_ l_,vN]) [] H7 (by kernel_rfl) trivial fun _ _ H11 hb => ?_
 replace hS:=hS.below hb
 clear H7 hb
 obtain ⟨z12,hz,hm⟩:=bindE hm
 refine w_cut (fun a' w' => Fr 27 [(5,[],vS z12)] a' ∧ SH M X w [eI tyAnswer l_ g_l_] w') ?_ ?_
 ·replace hm:=hz
  refine s_reg [] [0,5,6] (fS [0,5,6] [vL g_l_ l_,vN,vI 0]) [] H11 (by kernel_rfl) trivial fun _ _ H14 hb => ?_
  replace hS:=hS.below hb
  clear H11 hb
  apply w_block
  refine w_loop (fun kk a' w' => ∃ (v15 : Str) (v16 : Int),r40_Text_L1 m l_ kk v15 v16 = some _ ∧ Fr 27 (fS [0,5,6] [vL g_l_ l_,vS v15,vI v16]) a' ∧ SH M X w [eI tyAnswer l_ g_l_] w') ⟨_,[],0,hm,FrG.keep (ks:=[0,5,6]) H14 (by kernel_rfl),hS⟩ ?_
  clear hm H14 hS
  rintro kk _ _ ⟨v15,v16,hm,H,hS⟩
  cases kk with
  | zero => exact noneE hm
  | succ kk =>
   rw [r40_Text_L1] at hm
   apply w_seq
   refine s_reg [] [0,5,6,15] (fS [0,5,6,15] [vL g_l_ l_,vS v15,vI v16,vB (decide (v16 < (ln l_)))]) [] H (by kernel_rfl) trivial fun _ _ H18 hb => ?_
   replace hS:=hS.below hb
   clear H hb
   refine w_if H18 rfl (fun hc => ?_) (fun hc => ?c27)
   case c27 =>
    replace hm:=bF hc hm
    apply w_exit rfl
    obtain rfl:=someE hm
    exact ⟨FrG.keep (ks:=[5]) H18 (by kernel_rfl),hS⟩
   replace hm:=bT hc hm
   apply w_skip
   apply w_seq
   apply w_block
   obtain ⟨ho19,hm⟩:=chkE hm
   obtain ⟨y20,hy20,hm⟩:=bindE hm
   obtain ⟨ho21,hm⟩:=chkE hm
   obtain ⟨ho22,hm⟩:=chkE hm
   refine w_reg [(vG [vI ((gi l_ v16).Err),vI ((gi l_ v16).Num),.slice (g_l_.s (v16).toNat 0).a (((gi l_ v16).Texts).length) (g_l_.s (v16).toNat 0).c,.slice (g_l_.s (v16).toNat 1).a (((gi l_ v16).Numbers).length) (g_l_.s (v16).toNat 1).c]),(vS y20)] [0,5,6] (fS [0,5,6] [vL g_l_ l_,vS (v15 ++ (y20 ++ [10])),vI v16]) [fun _ => oka g_l_.a ∧ 0 ≤ v16 ∧ v16 < ln l_,fun wz => V.atN (ab g_l_.a) (ao g_l_.a + (v16).toNat * 4) [vI ((gi l_ v16).Err),vI ((gi l_ v16).Num),.slice (g_l_.s (v16).toNat 0).a (((gi l_ v16).Texts).length) (g_l_.s (v16).toNat 0).c,.slice (g_l_.s (v16).toNat 1).a (((gi l_ v16).Numbers).length) (g_l_.s (v16).toNat 1).c] 0 wz,rB 18 [vG [vI ((gi l_ v16).Err),vI ((gi l_ v16).Num),.slice (g_l_.s (v16).toNat 0).a (((gi l_ v16).Texts).length) (g_l_.s (v16).toNat 0).c,.slice (g_l_.s (v16).toNat 1).a (((gi l_ v16).Numbers).length) (g_l_.s (v16).toNat 1).c]] (vS y20),fun _ => ln y20 + ln [10] ≤ 9223372036854775807,fun _ => ln v15 + ln (y20 ++ [10]) ≤ 9223372036854775807] H18 (by kernel_rfl) ⟨((hS.im 0 rfl).oki ho19),((hS.im 0 rfl).atA ho19 0 rfl),(r40_Shown_ok (g_a__0:=(g_l_.s (v16).toNat 0)) (g_a__1:=(g_l_.s (v16).toNat 1)) m _ _ hy20 _ (s0im (s0im s0nil (tyAnswer_i1 ((hS.im 0 rfl).el ho19))) (tyAnswer_i0 ((hS.im 0 rfl).el ho19)))),ho21,ho22,trivial⟩ fun _ _ H24 hb => ?_
   replace hS:=hS.below hb
   clear H18 hb
   refine w_reg [] [0,5,6] (fS [0,5,6] [vL g_l_ l_,vS (v15 ++ (y20 ++ [10])),vI (w64 (v16 + 1))]) [] H24 (by kernel_rfl) trivial fun _ _ H26 hb => ?_
   replace hS:=hS.below hb
   clear H24 hb
   exact ⟨_,Nat.lt_succ_self _,v15 ++ (y20 ++ [10]),w64 (v16 + 1),hm,FrG.keep (ks:=[0,5,6]) H26 (by kernel_rfl),hS⟩
 ·rintro _ _ ⟨H,hS⟩
  replace hS : SH M X w [] _:=hS.sel [] rfl
  refine s_reg [] [2,3] (fS [2,3] [vS z12,vI 0]) [] H (by kernel_rfl) trivial fun _ _ H30 hb => ?_
  replace hS:=hS.below hb
  clear H hb
  apply w_ret
  obtain rfl:=someE hm
  exact retR2 H30 rfl rfl rfl ⟨_,rfl,rfl,(hS.sel [] rfl)⟩
theorem r40_Text_ok {g_l_ : Gh} (m : Nat) (l_ : List TAnswer) (r : Str × Int) (hm : r40_Text m l_ = some r) (w : World) (hL : S0 F0 [eI tyAnswer l_ g_l_] w ∧ fpl [eI tyAnswer l_ g_l_] = []) : RetB Tryz.prog 6 ⟨[vL g_l_ l_]⟩ (vW [vS r.1,vI r.2]) w:=retB_of hL (Tryz.call6 _) (fun w' h => r40_Text_w F0 m   l_ r hm w' h)

theorem stringslite_HasSuffix_w  (M : Av) (s : Str) (suffix : Str) (r : Bool) (hm : stringslite_HasSuffix s suffix = some r) (w : World) (hS : S0 M [] w) : Calls Tryz.prog 38 ⟨[vS s,vS suffix]⟩ w (fun e w' => ∃ v,e = .returned v ∧ v = vB r ∧ SH M (fpl []) w [] w'):=by
 rw [stringslite_HasSuffix] at hm
 have hS0 : SH M (fpl []) w [] w:=hS
 generalize hX : fpl [] = X at hS0 ⊢
 clear hS hX
 have hS:=hS0
 clear hS0
 refine calls_entryP Tryz.func38 rfl Tryz.ntmps38 rfl fun _ H => ?_
 refine s_reg [] [0,1] (fS [0,1] [vS s,vS suffix]) [] H (by kernel_rfl) trivial fun _ _ H2 hb => ?_
 replace hS:=hS.below hb
 clear H hb
 obtain ⟨ho3,hm⟩:=chkE hm
 obtain ⟨x4,hx4,hm⟩:=letE hm
 refine s_reg [] [4] [(4,[],vB x4)] [fun _ => ((decide ((ln suffix) ≤ (ln s))) = true ∧ True → 0 ≤ (w64 ((ln s) - (ln suffix))) ∧ (w64 ((ln s) - (ln suffix))) ≤ ln s)] H2 (by subst hx4; kernel_rfl) ⟨fun hg => (ho3 hg.1),trivial⟩ fun _ _ H6 hb => ?_
 replace hS:=hS.below hb
 clear H2 hb
 apply w_ret
 obtain rfl:=someE hm
 exact retR1 H6 rfl rfl ⟨_,rfl,rfl,(hS.sel [] rfl)⟩
theorem stringslite_HasSuffix_ok  (s : Str) (suffix : Str) (r : Bool) (hm : stringslite_HasSuffix s suffix = some r) : Ret Tryz.prog 38 ⟨[vS s,vS suffix]⟩ (vB r):=retP_of (Tryz.call38 _) (fun w h => stringslite_HasSuffix_w F0   s suffix r hm w h)

theorem strings_HasSuffix_w  (M : Av) (s : Str) (suffix : Str) (r : Bool) (hm : strings_HasSuffix s suffix = some r) (w : World) (hS : S0 M [] w) : Calls Tryz.prog 19 ⟨[vS s,vS suffix]⟩ w (fun e w' => ∃ v,e = .returned v ∧ v = vB r ∧ SH M (fpl []) w [] w'):=by
 rw [strings_HasSuffix] at hm
 have hS0 : SH M (fpl []) w [] w:=hS
 generalize hX : fpl [] = X at hS0 ⊢
 clear hS hX
 have hS:=hS0
 clear hS0
 refine calls_entryP Tryz.func19 rfl Tryz.ntmps19 rfl fun _ H => ?_
 refine s_reg [] [0,1] (fS [0,1] [vS s,vS suffix]) [] H (by kernel_rfl) trivial fun _ _ H2 hb => ?_
 replace hS:=hS.below hb
 clear H hb
 obtain ⟨y3,hy3,hm⟩:=bindE hm
 refine s_reg [(vB y3)] [4] [(4,[],vB y3)] [rB 38 [vS s,vS suffix] (vB y3)] H2 (by kernel_rfl) ⟨((stringslite_HasSuffix_ok _ _ _ hy3).b),trivial⟩ fun _ _ H5 hb => ?_
 replace hS:=hS.below hb
 clear H2 hb
 apply w_ret
 obtain rfl:=someE hm
 exact retR1 H5 rfl rfl ⟨_,rfl,rfl,(hS.sel [] rfl)⟩
theorem strings_HasSuffix_ok  (s : Str) (suffix : Str) (r : Bool) (hm : strings_HasSuffix s suffix = some r) : Ret Tryz.prog 19 ⟨[vS s,vS suffix]⟩ (vB r):=retP_of (Tryz.call19 _) (fun w h => strings_HasSuffix_w F0   s suffix r hm w h)

theorem nat40 (x0 : Str) (x1 : Int) (w : World) : RetB Tryz.prog 40 ⟨[vS x0,vU x1]⟩ (vI (nCountByte x0 x1)) w:=nat_CountString Tryz.func40 (by kernel_rfl) rfl (by kernel_rfl) (by kernel_rfl) _ _ w

theorem nat72 (x0 : Str) (x1 : Int) (w : World) : RetB Tryz.prog 72 ⟨[vS x0,vU x1]⟩ (vI (nIndexByte x0 x1)) w:=nat_IndexByteString Tryz.func72 (by kernel_rfl) rfl (by kernel_rfl) (by kernel_rfl) _ _ w

theorem stringslite_IndexByte_w  (M : Av) (s : Str) (c_ : Int) (r : Int) (hm : stringslite_IndexByte s c_ = r) (w : World) (hS : S0 M [] w) : Calls Tryz.prog 57 ⟨[vS s,vU c_]⟩ w (fun e w' => ∃ v,e = .returned v ∧ v = vI r ∧ SH M (fpl []) w [] w'):=by
 rw [stringslite_IndexByte] at hm
 have hS0 : SH M (fpl []) w [] w:=hS
 generalize hX : fpl [] = X at hS0 ⊢
 clear hS hX
 have hS:=hS0
 clear hS0
 refine calls_entryP Tryz.func57 rfl Tryz.ntmps57 rfl fun _ H => ?_
 refine s_reg [] [0,1] (fS [0,1] [vS s,vU c_]) [] H (by kernel_rfl) trivial fun _ _ H2 hb => ?_
 replace hS:=hS.below hb
 clear H hb
 refine s_reg [(vI (nIndexByte s c_))] [4] [(4,[],vI (nIndexByte s c_))] [rB 72 [vS s,vU c_] (vI (nIndexByte s c_))] H2 (by kernel_rfl) ⟨(nat72 _ _ _),trivial⟩ fun _ _ H4 hb => ?_
 replace hS:=hS.below hb
 clear H2 hb
 apply w_ret
 subst hm
 exact retR1 H4 rfl rfl ⟨_,rfl,rfl,(hS.sel [] rfl)⟩
theorem stringslite_IndexByte_ok  (s : Str) (c_ : Int) : Ret Tryz.prog 57 ⟨[vS s,vU c_]⟩ (vI (stringslite_IndexByte s c_)):=retP_of (Tryz.call57 _) (fun w h => stringslite_IndexByte_w F0   s c_ _ rfl w h)

theorem stringslite_Index_w  (M : Av) (s : Str) (substr : Str) (r : Int) (hm : stringslite_Index s substr = some r) (w : World) (hS : S0 M [] w) : Calls Tryz.prog 56 ⟨[vS s,vS substr]⟩ w (fun e w' => ∃ v,e = .returned v ∧ v = vI r ∧ SH M (fpl []) w [] w'):=by
 rw [stringslite_Index] at hm
 have hS0 : SH M (fpl []) w [] w:=hS
 generalize hX : fpl [] = X at hS0 ⊢
 clear hS hX
 have hS:=hS0
 clear hS0
 refine calls_entryP Tryz.func56 rfl Tryz.ntmps56 rfl fun _ H => ?_
 refine s_reg [] [0,1] (fS [0,1] [vS s,vS substr]) [] H (by kernel_rfl) trivial fun _ _ H2 hb => ?_
 replace hS:=hS.below hb
 clear H hb
 refine s_reg [] [0,1,5] (fS [0,1,5] [vS s,vS substr,vI (ln substr)]) [] H2 (by kernel_rfl) trivial fun _ _ H4 hb => ?_
 replace hS:=hS.below hb
 clear H2 hb
 apply w_seq
 apply w_block
 obtain ⟨x5,hx5,hm⟩:=letE hm
 refine s_reg [] [0,1,5,16] (fS [0,1,5,16] [vS s,vS substr,vI (ln substr),vB x5]) [] H4 (by subst hx5; kernel_rfl) trivial fun _ _ H7 hb => ?_
 replace hS:=hS.below hb
 clear H4 hb
 refine w_if H7 rfl (fun hc => ?c21) (fun hc => ?_)
 case c21 =>
  replace hm:=bT hc hm
  refine s_reg [] [4] [(4,[],vI 0)] [] H7 (by kernel_rfl) trivial fun _ _ H9 hb => ?_
  replace hS:=hS.below hb
  clear H7 hb
  apply w_ret
  obtain rfl:=someE hm
  exact retR1 H9 rfl rfl ⟨_,rfl,rfl,(hS.sel [] rfl)⟩
 replace hm:=bF hc hm
 refine s_reg [] [0,1,5,24] (fS [0,1,5,24] [vS s,vS substr,vI (ln substr),vB ((ln substr) == 1)]) [] H7 (by kernel_rfl) trivial fun _ _ H11 hb => ?_
 replace hS:=hS.below hb
 clear H7 hb
 refine w_if H11 rfl (fun hc => ?c20) (fun hc => ?_)
 case c20 =>
  replace hm:=bT hc hm
  obtain ⟨ho12,hm⟩:=chkE hm
  refine s_reg [(vI (stringslite_IndexByte s (bat substr 0)))] [4] [(4,[],vI (stringslite_IndexByte s (bat substr 0)))] [fun _ => 0 ≤ (0 : Int) ∧ (0 : Int) < ln substr,rB 57 [vS s,vU (bat substr 0)] (vI (stringslite_IndexByte s (bat substr 0)))] H11 (by kernel_rfl) ⟨ho12,((stringslite_IndexByte_ok _ _).b),trivial⟩ fun _ _ H14 hb => ?_
  replace hS:=hS.below hb
  clear H11 hb
  apply w_ret
  obtain rfl:=someE hm
  exact retR1 H14 rfl rfl ⟨_,rfl,rfl,(hS.sel [] rfl)⟩
 replace hm:=bF hc hm
 refine s_reg [] [0,1,5,31] (fS [0,1,5,31] [vS s,vS substr,vI (ln substr),vB (decide ((ln s) ≤ (ln substr)))]) [] H11 (by kernel_rfl) trivial fun _ _ H16 hb => ?_
 replace hS:=hS.below hb
 clear H11 hb
 refine w_if H16 rfl (fun hc => ?_) (fun hc => ?c19)
 case c19 =>
  replace hm:=bF hc hm
  exact noneE hm
 replace hm:=bT hc hm
 refine s_reg [] [4] [(4,[],vI (-1))] [] H16 (by kernel_rfl) trivial fun _ _ H18 hb => ?_
 replace hS:=hS.below hb
 clear H16 hb
 apply w_ret
 obtain rfl:=someE hm
 exact retR1 H18 rfl rfl ⟨_,rfl,rfl,(hS.sel [] rfl)⟩
theorem stringslite_Index_ok  (s : Str) (substr : Str) (r : Int) (hm : stringslite_Index s substr = some r) : Ret Tryz.prog 56 ⟨[vS s,vS substr]⟩ (vI r):=retP_of (Tryz.call56 _) (fun w h => stringslite_Index_w F0   s substr r hm w h)

theorem strings_Index_w  (M : Av) (s : Str) (substr : Str) (r : Int) (hm : strings_Index s substr = some r) (w : World) (hS : S0 M [] w) : Calls Tryz.prog 41 ⟨[vS s,vS substr]⟩ w (fun e w' => ∃ v,e = .returned v ∧ v = vI r ∧ SH M (fpl []) w [] w'):=by
 rw [strings_Index] at hm
 have hS0 : SH M (fpl []) w [] w:=hS
 generalize hX : fpl [] = X at hS0 ⊢
 clear hS hX
 have hS:=hS0
 clear hS0
 refine calls_entryP Tryz.func41 rfl Tryz.ntmps41 rfl fun _ H => ?_
 refine s_reg [] [0,1] (fS [0,1] [vS s,vS substr]) [] H (by kernel_rfl) trivial fun _ _ H2 hb => ?_
 replace hS:=hS.below hb
 clear H hb
 obtain ⟨y3,hy3,hm⟩:=bindE hm
 refine s_reg [(vI y3)] [4] [(4,[],vI y3)] [rB 56 [vS s,vS substr] (vI y3)] H2 (by kernel_rfl) ⟨((stringslite_Index_ok _ _ _ hy3).b),trivial⟩ fun _ _ H5 hb => ?_
 replace hS:=hS.below hb
 clear H2 hb
 apply w_ret
 obtain rfl:=someE hm
 exact retR1 H5 rfl rfl ⟨_,rfl,rfl,(hS.sel [] rfl)⟩
theorem strings_Index_ok  (s : Str) (substr : Str) (r : Int) (hm : strings_Index s substr = some r) : Ret Tryz.prog 41 ⟨[vS s,vS substr]⟩ (vI r):=retP_of (Tryz.call41 _) (fun w h => strings_Index_w F0   s substr r hm w h)

theorem strings_Count_w  (M : Av) (m : Nat) (s : Str) (substr : Str) (r : Int) (hm : strings_Count m s substr = some r) (w : World) (hS : S0 M [] w) : Calls Tryz.prog 20 ⟨[vS s,vS substr]⟩ w (fun e w' => ∃ v,e = .returned v ∧ v = vI r ∧ SH M (fpl []) w [] w'):=by
 rw [strings_Count] at hm
 have hS0 : SH M (fpl []) w [] w:=hS
 generalize hX : fpl [] = X at hS0 ⊢
 clear hS hX
 have hS:=hS0
 clear hS0
 refine calls_entryP Tryz.func20 rfl Tryz.ntmps20 rfl fun _ H => ?_
 refine s_reg [] [0,1] (fS [0,1] [vS s,vS substr]) [] H (by kernel_rfl) trivial fun _ _ H2 hb => ?_
 replace hS:=hS.below hb
 clear H hb
 apply w_seq
 refine s_reg [] [0,1,9] (fS [0,1,9] [vS s,vS substr,vB ((ln substr) == 0)]) [] H2 (by kernel_rfl) trivial fun _ _ H4 hb => ?_
 replace hS:=hS.below hb
 clear H2 hb
 refine w_if H4 rfl (fun hc => ?c30) (fun hc => ?_)
 case c30 =>
  replace hm:=bT hc hm
  exact noneE hm
 replace hm:=bF hc hm
 apply w_skip
 apply w_seq
 refine s_reg [] [0,1,15] (fS [0,1,15] [vS s,vS substr,vB ((ln substr) == 1)]) [] H4 (by kernel_rfl) trivial fun _ _ H6 hb => ?_
 replace hS:=hS.below hb
 clear H4 hb
 refine w_if H6 rfl (fun hc => ?c29) (fun hc => ?_)
 case c29 =>
  replace hm:=bT hc hm
  obtain ⟨ho7,hm⟩:=chkE hm
  refine s_reg [(vI (nCountByte s (bat substr 0)))] [4] [(4,[],vI (nCountByte s (bat substr 0)))] [fun _ => 0 ≤ (0 : Int) ∧ (0 : Int) < ln substr,rB 40 [vS s,vU (bat substr 0)] (vI (nCountByte s (bat substr 0)))] H6 (by kernel_rfl) ⟨ho7,(nat40 _ _ _),trivial⟩ fun _ _ H9 hb => ?_
  replace hS:=hS.below hb
  clear H6 hb
  apply w_ret
  obtain rfl:=someE hm
  exact retR1 H9 rfl rfl ⟨_,rfl,rfl,(hS.sel [] rfl)⟩
 replace hm:=bF hc hm
 apply w_skip
 refine s_reg [] [0,1,5] (fS [0,1,5] [vS s,vS substr,vI 0]) [] H6 (by kernel_rfl) trivial fun _ _ H11 hb => ?_
 replace hS:=hS.below hb
 clear H6 hb
 apply w_block
 refine w_loop (fun kk a' w' => ∃ (v12 : Str) (v13 : Int),strings_Count_L1 m substr kk v12 v13 = some _ ∧ Fr 34 (fS [1,0,5] [vS substr,vS v12,vI v13]) a' ∧ SH M X w [] w') ⟨_,s,0,hm,FrG.keep (ks:=[1,0,5]) H11 (by kernel_rfl),hS⟩ ?_
 clear hm H11 hS
 rintro kk _ _ ⟨v12,v13,hm,H,hS⟩
 cases kk with
 | zero => exact noneE hm
 | succ kk =>
  rw [strings_Count_L1] at hm
  apply w_block
  obtain ⟨y14,hy14,hm⟩:=bindE hm
  refine s_reg [(vI y14)] [0,1,5,6] (fS [0,1,5,6] [vS v12,vS substr,vI v13,vI y14]) [rB 41 [vS v12,vS substr] (vI y14)] H (by kernel_rfl) ⟨((strings_Index_ok _ _ _ hy14).b),trivial⟩ fun _ _ H16 hb => ?_
  replace hS:=hS.below hb
  clear H hb
  apply w_seq
  refine s_reg [] [0,1,5,6,24] (fS [0,1,5,6,24] [vS v12,vS substr,vI v13,vI y14,vB (y14 == (-1))]) [] H16 (by kernel_rfl) trivial fun _ _ H18 hb => ?_
  replace hS:=hS.below hb
  clear H16 hb
  refine w_if H18 rfl (fun hc => ?c27) (fun hc => ?_)
  case c27 =>
   replace hm:=bT hc hm
   refine s_reg [] [4] [(4,[],vI v13)] [] H18 (by kernel_rfl) trivial fun _ _ H20 hb => ?_
   replace hS:=hS.below hb
   clear H18 hb
   apply w_ret
   obtain rfl:=someE hm
   exact retR1 H20 rfl rfl ⟨_,rfl,rfl,(hS.sel [] rfl)⟩
  replace hm:=bF hc hm
  apply w_skip
  refine s_reg [] [0,1,5,6] (fS [0,1,5,6] [vS v12,vS substr,vI (w64 (v13 + 1)),vI y14]) [] H18 (by kernel_rfl) trivial fun _ _ H22 hb => ?_
  replace hS:=hS.below hb
  clear H18 hb
  obtain ⟨ho23,hm⟩:=chkE hm
  obtain ⟨x24,hx24,hm⟩:=letE hm
  refine w_reg [] [0,1,5] (fS [0,1,5] [vS x24,vS substr,vI (w64 (v13 + 1))]) [fun _ => 0 ≤ (w64 (y14 + (ln substr))) ∧ (w64 (y14 + (ln substr))) ≤ ln v12] H22 (by subst hx24; kernel_rfl) ⟨ho23,trivial⟩ fun _ _ H26 hb => ?_
  replace hS:=hS.below hb
  clear H22 hb
  exact ⟨_,Nat.lt_succ_self _,x24,w64 (v13 + 1),hm,FrG.keep (ks:=[1,0,5]) H26 (by kernel_rfl),hS⟩
theorem strings_Count_ok  (m : Nat) (s : Str) (substr : Str) (r : Int) (hm : strings_Count m s substr = some r) : Ret Tryz.prog 20 ⟨[vS s,vS substr]⟩ (vI r):=retP_of (Tryz.call20 _) (fun w h => strings_Count_w F0 m   s substr r hm w h)

theorem strings_Lines_w  (M : Av) (s : Str) (r : Str) (hm : strings_Lines s = r) (w : World) (hS : S0 M [] w) : Calls Tryz.prog 21 ⟨[vS s]⟩ w (fun e w' => ∃ v,e = .returned v ∧ ∃ (b901 : Nat),v = .func (.func 42) ⟨[]⟩ ⟨[vP b901]⟩ ∧ SH M (fpl []) w [eB b901 [vS r]] w'):=by
 rw [strings_Lines] at hm
 have hS0 : SH M (fpl []) w [] w:=hS
 generalize hX : fpl [] = X at hS0 ⊢
 clear hS hX
 have hS:=hS0
 clear hS0
 refine calls_entryP Tryz.func21 rfl Tryz.ntmps21 rfl fun _ H => ?_
 apply w_seq
 apply wl_start
 have hd:=hS.hand [] [] rfl rfl
 refine m_stp [1] [] H rfl rfl rfl rfl (o_box [vS s] H hd rfl rfl) (fun _ => rfl) fun _ _ v H3 hq => ?_
 clear H hd
 obtain ⟨b1,rfl,hq⟩:=hq
 replace hS : SH M X w [eB b1 [vS s]] _:=hS.join [] [] rfl rfl hq
 clear hq
 refine wl_batch 1 2 [] [1] [(1,[],vP b1)] [] H3 (by decide) (by kernel_rfl) trivial fun _ _ H5 hb => ?_
 replace hS:=hS.below hb
 clear H3 hb
 apply wl_end rfl
 refine s_reg [] [2] [(2,[],.func (.func 42) ⟨[]⟩ ⟨[vP b1]⟩)] [] H5 (by kernel_rfl) trivial fun _ _ H7 hb => ?_
 replace hS:=hS.below hb
 clear H5 hb
 apply w_ret
 subst hm
 exact retR1 H7 rfl rfl ⟨_,rfl,b1,rfl,(hS.sel [0] rfl)⟩
theorem strings_Lines_ok  (s : Str) (r : Str) (hm : strings_Lines s = r) (M : Av) (w : World) (hS : S0 M [] w) : DoesX Tryz.prog 21 ⟨[vS s]⟩ w (fun v w' => ∃ (b901 : Nat),v = .func (.func 42) ⟨[]⟩ ⟨[vP b901]⟩ ∧ SH M (fpl []) w [eB b901 [vS r]] w'):=⟨Tryz.call21 _,strings_Lines_w M   s r hm w hS⟩

theorem strings_IndexByte_w  (M : Av) (s : Str) (c_ : Int) (r : Int) (hm : strings_IndexByte s c_ = r) (w : World) (hS : S0 M [] w) : Calls Tryz.prog 43 ⟨[vS s,vU c_]⟩ w (fun e w' => ∃ v,e = .returned v ∧ v = vI r ∧ SH M (fpl []) w [] w'):=by
 rw [strings_IndexByte] at hm
 have hS0 : SH M (fpl []) w [] w:=hS
 generalize hX : fpl [] = X at hS0 ⊢
 clear hS hX
 have hS:=hS0
 clear hS0
 refine calls_entryP Tryz.func43 rfl Tryz.ntmps43 rfl fun _ H => ?_
 refine s_reg [] [0,1] (fS [0,1] [vS s,vU c_]) [] H (by kernel_rfl) trivial fun _ _ H2 hb => ?_
 replace hS:=hS.below hb
 clear H hb
 refine s_reg [(vI (stringslite_IndexByte s c_))] [4] [(4,[],vI (stringslite_IndexByte s c_))] [rB 57 [vS s,vU c_] (vI (stringslite_IndexByte s c_))] H2 (by kernel_rfl) ⟨((stringslite_IndexByte_ok _ _).b),trivial⟩ fun _ _ H4 hb => ?_
 replace hS:=hS.below hb
 clear H2 hb
 apply w_ret
 subst hm
 exact retR1 H4 rfl rfl ⟨_,rfl,rfl,(hS.sel [] rfl)⟩
theorem strings_IndexByte_ok  (s : Str) (c_ : Int) : Ret Tryz.prog 43 ⟨[vS s,vU c_]⟩ (vI (strings_IndexByte s c_)):=retP_of (Tryz.call43 _) (fun w h => strings_IndexByte_w F0   s c_ _ rfl w h)

theorem lines42_v (v : Str) (hlv : v.length ≤ 1099511627776) : lines42_m v = some (lnT v,lnR v):=by
  have e : strings_IndexByte v 10 = nIndexByte v 10:=rfl
  unfold lines42_m
  show cond (decide (0 ≤ strings_IndexByte v 10)) _ _ = _
  rw [e]
  by_cases h : 0 ≤ nIndexByte v 10
  · rw [decide_eq_true h,cond_true]
    obtain ⟨a1,a2,a3,a4⟩:=ln_ix1 v hlv h
    rw [a3,a4]
    simp only [chk,lt,if_pos,a1,a2,and_self]
  · rw [decide_eq_false h,cond_false]
    obtain ⟨a1,a2⟩:=ln_ix0 v (by omega)
    rw [a1,a2]
theorem lines42 (s : Str) (bs : Nat) (w : World) (hlen : ln s ≤ 1099511627776) : SeqJ Tryz.prog 42 [vP bs] (fun kR => [vS (lnT (lnK s kR))]) (lnN s) bs (fun p => [vS (lnK s p)]) w:=by
  intro lr J Jx W hJB hJb hJx hmv hY h0
  refine calls_entryW Tryz.func42 rfl Tryz.ntmps42 rfl fun _ H => ?_
  refine r_block ?_
  refine r_loop (fun q a W => ∃ k : Nat,k + q = lnN s ∧ J k k W ∧ Fr 25 (fS [0,1] [.func (.yield lr) ⟨[]⟩ ⟨[]⟩,vP bs]) a) ⟨lnN s,0,Nat.zero_add _,h0,H⟩ ?_
  clear H h0
  rintro q _ W2 ⟨kR,hq,hJ,H⟩
  have hr:=hJB _ _ _ hJ
  refine r_seq ?_
  refine sr_reg [vS (lnK s kR)] [0,1,7] (fS [0,1,7] [.func (.yield lr) ⟨[]⟩ ⟨[]⟩,vP bs,vB (decide (0 < ln (lnK s kR)))]) [rA bs 0 (vS (lnK s kR))] H (by kernel_rfl) (by kernel_rfl) ⟨hr.at1 rfl,trivial⟩ fun _ W3 H hb => ?_
  replace hJ:=hJb _ _ _ _ hJ hb
  clear hb hr
  refine r_if H rfl (fun hc => ?_) (fun hc => ?_)
  · refine r_skip ?_
    have hk : kR < lnN s:=lnK_nz s kR (by intro e; rw [e] at hc; cases hc)
    obtain ⟨v,hv⟩ : ∃ v,v = lnK s kR:=⟨_,rfl⟩
    have hlv : v.length ≤ 1099511627776:=by
      have:=lnK_len s kR
      subst hv
      unfold ln at hlen
      omega
    refine r_block ?_
    refine sr_reg [] [0,1] (fS [0,1] [.func (.yield lr) ⟨[]⟩ ⟨[]⟩,vP bs]) [] H (by kernel_rfl) (by kernel_rfl) trivial fun _ W4 H hb => ?_
    replace hJ:=hJb _ _ _ _ hJ hb
    clear hb
    have hr : Blk W4 bs [vS v]:=by rw [hv]; exact hJB _ _ _ hJ
    refine r_cut (fun a' w' => Fr 25 (fS [0,1,3] [.func (.yield lr) ⟨[]⟩ ⟨[]⟩,vP bs,vS (lnT v)]) a' ∧ Kp [bs] W4 w' ∧ Blk w' bs [vS (lnR v)]) ?_ ?_
    · refine (wpIn_wide (n:=0)).2 ?_
      have hm:=lines42_v v hlv
      unfold lines42_m at hm
      have hS : SH F0 [bs] W4 [eB bs [vS v]] W4:=blk_sh hr
      refine s_reg [(vS v),(vI (strings_IndexByte v 10))] [0,1,4] (fS [0,1,4] [.func (.yield lr) ⟨[]⟩ ⟨[]⟩,vP bs,vI (strings_IndexByte v 10)]) [rA bs 0 (vS v),rB 43 [vS v,vU 10] (vI (strings_IndexByte v 10))] H (by kernel_rfl) ⟨((hS.bk 0 rfl).at1 rfl),((strings_IndexByte_ok _ _).b),trivial⟩ fun _ _ H2 hb => ?_
      replace hS:=hS.below hb
      clear H hb
      refine s_reg [] [0,1,4,11] (fS [0,1,4,11] [.func (.yield lr) ⟨[]⟩ ⟨[]⟩,vP bs,vI (strings_IndexByte v 10),vB (decide (0 ≤ (strings_IndexByte v 10)))]) [] H2 (by kernel_rfl) trivial fun _ _ H4 hb => ?_
      replace hS:=hS.below hb
      clear H2 hb
      refine w_if H4 rfl (fun hc => ?_) (fun hc => ?c16)
      case c16 =>
       replace hm:=bF hc hm
       apply wl_start
       refine wl_batch 0 2 [(vS v)] [0,1,3] (fS [0,1,3] [.func (.yield lr) ⟨[]⟩ ⟨[]⟩,vP bs,vS v]) [rA bs 0 (vS v)] H4 (by decide) (by kernel_rfl) ⟨((hS.bk 0 rfl).at1 rfl),trivial⟩ fun _ _ H13 hb => ?_
       replace hS:=hS.below hb
       clear H4 hb
       have hd:=hS.hand [0] [] rfl rfl
       refine m_stp0 [0,1,3] (fS [0,1,3] [.func (.yield lr) ⟨[]⟩ ⟨[]⟩,vP bs,vS v]) H13 rfl rfl rfl (o_store [vN] H13 hd rfl rfl (by kernel_rfl) rfl rfl rfl) rfl fun _ _ H15 hq => ?_
       clear H13 hd
       obtain ⟨_,hq⟩:=hq
       replace hS : SH F0 [bs] W4 [eB bs [vN]] _:=hS.join [0] [] rfl rfl hq
       clear hq
       apply wl_end rfl
       have hm:=someE hm
       have e1 : v = lnT v:=congrArg Prod.fst hm
       have e2 : [] = lnR v:=congrArg Prod.snd hm
       refine ⟨by rw [← e1]; exact FrG.keep (ks:=[0,1,3]) H15 (by kernel_rfl),hS.kp,by rw [← e2]; exact hS.bk 0 rfl⟩
      replace hm:=bT hc hm
      obtain ⟨ho6,hm⟩:=chkE hm
      obtain ⟨x7,hx7,hm⟩:=letE hm
      obtain ⟨x8,hx8,hm⟩:=letE hm
      refine w_drawS (base:=(fS [0,1,4] [.func (.yield lr) ⟨[]⟩ ⟨[]⟩,vP bs,vI (strings_IndexByte v 10)])) (L:=[eB bs [vS v]]) 10 1 (fun yg5 => [vS v,vI (strings_IndexByte v 10),vI (w64 ((strings_IndexByte v 10) + 1)),vS x7,vS v,vI (strings_IndexByte v 10),vI (w64 ((strings_IndexByte v 10) + 1)),vS x8,vS x7,undef]) (fun yg5 => [[],[],[],[],[],[],[],[],[],[eB bs [vS x8]]]) [[10],[],[],[],[10],[],[],[],[],[10]] [[],[],[],[],[],[],[],[],[],[10]] [[0],[1],[1,2],[0,1,2,3],[4],[5],[5,6],[4,5,6,7],[0,1,2,3,8],[4,5,6,7,9]] [] (FrG.keep (ks:=[0,1,4]) H4 (by kernel_rfl)) (fun _ _ h => by cases h) (by kernel_rfl) hS (by kernel_rfl) rfl rfl (by kernel_rfl) (by kernel_rfl) (by kernel_rfl) (gd_none (by kernel_rfl) _ _) ?hloc_yg5 ?hstep_yg5 fun _ _ yg5 H10 hv hS => ?hK_yg5
      case hloc_yg5 => exact ⟨(fun _ _ _ _ => ⟨rfl,rfl⟩),(fun _ _ _ _ => ⟨rfl,rfl⟩),(fun _ _ _ _ => ⟨rfl,rfl⟩),(fun _ _ _ _ => ⟨rfl,rfl⟩),(fun _ _ _ _ => ⟨rfl,rfl⟩),(fun _ _ _ _ => ⟨rfl,rfl⟩),(fun _ _ _ _ => ⟨rfl,rfl⟩),(fun _ _ _ _ => ⟨rfl,rfl⟩),(fun _ _ _ _ => ⟨rfl,rfl⟩),(fun _ _ _ _ => ⟨rfl,rfl⟩),trivial⟩
      case hstep_yg5 =>
       refine ⟨?_,?_,?_,?_,?_,?_,?_,?_,?_,?_,trivial⟩
       ·intro o ho a w yg5 M Hb hv hO hS
        obtain rfl:=someE ho
        exact Stp.mono (o_evs [(vS v)] (vS v) (some (rA bs 0 (vS v))) [] Hb rfl (by kernel_rfl) (fun q e => by cases e; exact ((hS.bk 0 rfl).at1 rfl))) fun _ _ hq => ⟨gL [],fun _ _ => hq.1,(hS.below hq.2.below).sel [0] rfl⟩
       ·intro o ho a w yg5 M Hb hv hO hS
        obtain rfl:=someE ho
        exact Stp.mono (o_evs [] (vI (strings_IndexByte v 10)) none [] Hb rfl (by kernel_rfl) (fun q e => by cases e)) fun _ _ hq => ⟨gL [],fun _ _ => hq.1,(hS.below hq.2.below).sel [] rfl⟩
       ·intro o ho a w yg5 M Hb hv hO hS
        obtain rfl:=someE ho
        exact Stp.mono (o_evs [] (vI (w64 ((strings_IndexByte v 10) + 1))) none [] ((Hb).add (hv 1 (by decide) (by decide) 13 rfl)) rfl (by kernel_rfl) (fun q e => by cases e)) fun _ _ hq => ⟨gL [],fun _ _ => hq.1,(hS.below hq.2.below).sel [] rfl⟩
       ·intro o ho a w yg5 M Hb hv hO hS
        obtain rfl:=someE ho
        exact Stp.mono (o_evs [] (vS x7) (some (fun _ => 0 ≤ (w64 ((strings_IndexByte v 10) + 1)) ∧ (w64 ((strings_IndexByte v 10) + 1)) ≤ ln v)) [] (((Hb).add (hv 0 (by decide) (by decide) 12 rfl)).add (hv 2 (by decide) (by decide) 14 rfl)) rfl (by subst hx7; kernel_rfl) (fun q e => by cases e; exact ho6)) fun _ _ hq => ⟨gL [],fun _ _ => hq.1,(hS.below hq.2.below).sel [] rfl⟩
       ·intro o ho a w yg5 M Hb hv hO hS
        obtain rfl:=someE ho
        exact Stp.mono (o_evs [(vS v)] (vS v) (some (rA bs 0 (vS v))) [] Hb rfl (by kernel_rfl) (fun q e => by cases e; exact ((hS.bk 0 rfl).at1 rfl))) fun _ _ hq => ⟨gL [],fun _ _ => hq.1,(hS.below hq.2.below).sel [0] rfl⟩
       ·intro o ho a w yg5 M Hb hv hO hS
        obtain rfl:=someE ho
        exact Stp.mono (o_evs [] (vI (strings_IndexByte v 10)) none [] Hb rfl (by kernel_rfl) (fun q e => by cases e)) fun _ _ hq => ⟨gL [],fun _ _ => hq.1,(hS.below hq.2.below).sel [] rfl⟩
       ·intro o ho a w yg5 M Hb hv hO hS
        obtain rfl:=someE ho
        exact Stp.mono (o_evs [] (vI (w64 ((strings_IndexByte v 10) + 1))) none [] ((Hb).add (hv 5 (by decide) (by decide) 17 rfl)) rfl (by kernel_rfl) (fun q e => by cases e)) fun _ _ hq => ⟨gL [],fun _ _ => hq.1,(hS.below hq.2.below).sel [] rfl⟩
       ·intro o ho a w yg5 M Hb hv hO hS
        obtain rfl:=someE ho
        exact Stp.mono (o_evs [] (vS x8) (some (fun _ => 0 ≤ (w64 ((strings_IndexByte v 10) + 1)) ∧ (w64 ((strings_IndexByte v 10) + 1)) ≤ ln v)) [] (((Hb).add (hv 4 (by decide) (by decide) 16 rfl)).add (hv 6 (by decide) (by decide) 18 rfl)) rfl (by subst hx8; kernel_rfl) (fun q e => by cases e; exact ho6)) fun _ _ hq => ⟨gL [],fun _ _ => hq.1,(hS.below hq.2.below).sel [] rfl⟩
       ·intro o ho a w yg5 M Hb hv hO hS
        obtain rfl:=someE ho
        exact Stp.mono (o_evs [] (vS x7) none [] ((Hb).add (hv 3 (by decide) (by decide) 15 rfl)) rfl (by kernel_rfl) (fun q e => by cases e)) fun _ _ hq => ⟨gL [],fun _ _ => hq.1,(hS.below hq.2.below).sel [] rfl⟩
       ·intro o ho a w yg5 M Hb hv hO hS0
        obtain rfl:=someE ho
        have H : Fr 25 ([(19,[],vS x8)] ++ (fS [0,1,4] [.func (.yield lr) ⟨[]⟩ ⟨[]⟩,vP bs,vI (strings_IndexByte v 10)])) _:=(Hb).add (hv 7 (by decide) (by decide) 19 rfl)
        obtain ⟨X,hX⟩ : ∃ X,X = fpl [eB bs [vS v]]:=⟨_,rfl⟩
        have hS : SH M X w [eB bs [vS v]] w:=by rw [hX]; exact hS0
        have hd:=hS.hand [0] [] rfl rfl
        refine Stp.mono (o_store [vS x8] H hd rfl rfl (by kernel_rfl) rfl rfl rfl) ?_
        rintro v w2 hq
        replace hS : SH M X w [eB bs [vS x8]] _:=hS.join [0] [] rfl rfl hq
        clear hq
        rw [hX] at hS
        exact ⟨gL [],(fun _ h => by cases h),hS.sel [0] rfl⟩
      have H11 : Fr 25 (fS [3,0,1] [vS x7,.func (.yield lr) ⟨[]⟩ ⟨[]⟩,vP bs]) _:=(FrG.add (FrG.keep (ks:=[0,1]) H10 (by kernel_rfl)) (hv 8 3 rfl))
      replace hS : SH F0 [bs] W4 [eB bs [vS x8]] _:=hS
      clear hv H10
      have hm:=someE hm
      have e1 : x7 = lnT v:=congrArg Prod.fst hm
      have e2 : x8 = lnR v:=congrArg Prod.snd hm
      refine ⟨by rw [← e1]; exact FrG.keep (ks:=[0,1,3]) H11 (by kernel_rfl),hS.kp,by rw [← e2]; exact hS.bk 0 rfl⟩
    · rintro _ W5 ⟨H,hkp,hbl⟩
      replace hJ : J kR (kR + 1) W5:=hmv _ _ (kR + 1) _ _ hJ hkp (by subst hv; exact hbl)
      clear hkp hbl
      refine r_seq ?_
      refine rl_reg ?_
      refine rl_batch 0 2 [] [0,1,21,22] (fS [0,1,21,22] [.func (.yield lr) ⟨[]⟩ ⟨[]⟩,vP bs,.func (.yield lr) ⟨[]⟩ ⟨[]⟩,vS (lnT v)]) [] H (by kernel_rfl) (by decide) (by kernel_rfl) trivial fun _ W6 H hb => ?_
      replace hJ:=hJb _ _ _ _ hJ hb
      clear hb
      have hy : YieldAt (FW none) 0 Tryz.prog lr ⟨[vS (lnT v)]⟩ W6 (fun e B => (e = .returned (vT) ∧ J (kR + 1) (kR + 1) B) ∨ (e = .returned (vF) ∧ Jx B)):=by subst hv; exact hY kR W6 hk hJ
      refine y_call [23,0,1] (fS [0,1] [.func (.yield lr) ⟨[]⟩ ⟨[]⟩,vP bs]) _ H rfl rfl rfl rfl (fun _ => rfl) hy ?_
      clear H
      rintro e W7 (⟨rfl,hJ7⟩ | ⟨rfl,hJ7⟩)
      · refine ⟨_,rfl,fun _ H => ?_⟩
        refine rl_batch 3 4 [] [0,1,24] (fS [0,1,24] [.func (.yield lr) ⟨[]⟩ ⟨[]⟩,vP bs,vF]) [] H (by kernel_rfl) (by decide) (by kernel_rfl) trivial fun _ W8 H hb => ?_
        replace hJ7:=hJb _ _ _ _ hJ7 hb
        clear hb
        refine rl_end rfl ?_
        refine r_if H rfl (fun hc => by cases hc) (fun _ => ?_)
        refine r_skip ?_
        exact ⟨q - 1,by omega,kR + 1,by omega,hJ7,FrG.keep (ks:=[0,1]) H (by kernel_rfl)⟩
      · refine ⟨_,rfl,fun _ H => ?_⟩
        refine rl_batch 3 4 [] [0,1,24] (fS [0,1,24] [.func (.yield lr) ⟨[]⟩ ⟨[]⟩,vP bs,vT]) [] H (by kernel_rfl) (by decide) (by kernel_rfl) trivial fun _ W8 H hb => ?_
        replace hJ7:=hJx _ _ hJ7 hb
        clear hb
        refine rl_end rfl ?_
        refine r_if H rfl (fun _ => ?_) (fun hc => by cases hc)
        refine r_ret ?_
        exact retR0 H rfl ⟨⟨_,rfl⟩,.inr hJ7⟩
  · have hk : kR = lnN s:=by
      rcases Nat.lt_or_ge kR (lnN s) with h | h
      · have:=lnK_pos s kR h
        rw [this] at hc
        cases hc
      · omega
    refine r_exit rfl ?_
    dsimp only
    subst hk
    exact retR0 H rfl ⟨⟨_,rfl⟩,.inl hJ⟩
theorem stringslite_TrimSuffix_w  (M : Av) (s : Str) (suffix : Str) (r : Str) (hm : stringslite_TrimSuffix s suffix = some r) (w : World) (hS : S0 M [] w) : Calls Tryz.prog 45 ⟨[vS s,vS suffix]⟩ w (fun e w' => ∃ v,e = .returned v ∧ v = vS r ∧ SH M (fpl []) w [] w'):=by
 rw [stringslite_TrimSuffix] at hm
 have hS0 : SH M (fpl []) w [] w:=hS
 generalize hX : fpl [] = X at hS0 ⊢
 clear hS hX
 have hS:=hS0
 clear hS0
 refine calls_entryP Tryz.func45 rfl Tryz.ntmps45 rfl fun _ H => ?_
 refine s_reg [] [0,1] (fS [0,1] [vS s,vS suffix]) [] H (by kernel_rfl) trivial fun _ _ H2 hb => ?_
 replace hS:=hS.below hb
 clear H hb
 apply w_seq
 obtain ⟨y3,hy3,hm⟩:=bindE hm
 refine s_reg [(vB y3)] [0,1,7] (fS [0,1,7] [vS s,vS suffix,vB y3]) [rB 38 [vS s,vS suffix] (vB y3)] H2 (by kernel_rfl) ⟨((stringslite_HasSuffix_ok _ _ _ hy3).b),trivial⟩ fun _ _ H5 hb => ?_
 replace hS:=hS.below hb
 clear H2 hb
 refine w_if H5 rfl (fun hc => ?_) (fun hc => ?c11)
 case c11 =>
  replace hm:=bF hc hm
  apply w_skip
  refine s_reg [] [4] [(4,[],vS s)] [] H5 (by kernel_rfl) trivial fun _ _ H10 hb => ?_
  replace hS:=hS.below hb
  clear H5 hb
  apply w_ret
  obtain rfl:=someE hm
  exact retR1 H10 rfl rfl ⟨_,rfl,rfl,(hS.sel [] rfl)⟩
 replace hm:=bT hc hm
 obtain ⟨ho6,hm⟩:=chkE hm
 refine s_reg [] [4] [(4,[],vS (sub s 0 (w64 ((ln s) - (ln suffix)))))] [fun _ => 0 ≤ (w64 ((ln s) - (ln suffix))) ∧ (w64 ((ln s) - (ln suffix))) ≤ ln s] H5 (by kernel_rfl) ⟨ho6,trivial⟩ fun _ _ H8 hb => ?_
 replace hS:=hS.below hb
 clear H5 hb
 apply w_ret
 obtain rfl:=someE hm
 exact retR1 H8 rfl rfl ⟨_,rfl,rfl,(hS.sel [] rfl)⟩
theorem stringslite_TrimSuffix_ok  (s : Str) (suffix : Str) (r : Str) (hm : stringslite_TrimSuffix s suffix = some r) : Ret Tryz.prog 45 ⟨[vS s,vS suffix]⟩ (vS r):=retP_of (Tryz.call45 _) (fun w h => stringslite_TrimSuffix_w F0   s suffix r hm w h)

theorem strings_TrimSuffix_w  (M : Av) (s : Str) (suffix : Str) (r : Str) (hm : strings_TrimSuffix s suffix = some r) (w : World) (hS : S0 M [] w) : Calls Tryz.prog 23 ⟨[vS s,vS suffix]⟩ w (fun e w' => ∃ v,e = .returned v ∧ v = vS r ∧ SH M (fpl []) w [] w'):=by
 rw [strings_TrimSuffix] at hm
 have hS0 : SH M (fpl []) w [] w:=hS
 generalize hX : fpl [] = X at hS0 ⊢
 clear hS hX
 have hS:=hS0
 clear hS0
 refine calls_entryP Tryz.func23 rfl Tryz.ntmps23 rfl fun _ H => ?_
 refine s_reg [] [0,1] (fS [0,1] [vS s,vS suffix]) [] H (by kernel_rfl) trivial fun _ _ H2 hb => ?_
 replace hS:=hS.below hb
 clear H hb
 obtain ⟨y3,hy3,hm⟩:=bindE hm
 refine s_reg [(vS y3)] [4] [(4,[],vS y3)] [rB 45 [vS s,vS suffix] (vS y3)] H2 (by kernel_rfl) ⟨((stringslite_TrimSuffix_ok _ _ _ hy3).b),trivial⟩ fun _ _ H5 hb => ?_
 replace hS:=hS.below hb
 clear H2 hb
 apply w_ret
 obtain rfl:=someE hm
 exact retR1 H5 rfl rfl ⟨_,rfl,rfl,(hS.sel [] rfl)⟩
theorem strings_TrimSuffix_ok  (s : Str) (suffix : Str) (r : Str) (hm : strings_TrimSuffix s suffix = some r) : Ret Tryz.prog 23 ⟨[vS s,vS suffix]⟩ (vS r):=retP_of (Tryz.call23 _) (fun w h => strings_TrimSuffix_w F0   s suffix r hm w h)

theorem x_strings_IndexAny_ok (x0 : Str) (x1 : Str) (r : Int) (hm : x_strings_IndexAny x0 x1 = some r) (w : World) : RetB Tryz.prog 61 ⟨[vS x0,vS x1]⟩ (vI r) w:=by
  obtain ⟨h,hm⟩:=chkE hm
  obtain rfl:=someE hm
  exact .inl ⟨Tryz.call61 _,fun w' _ => (ia_at x0 x1 h w').mono fun e w'' he => ⟨he.1,he.2⟩⟩

theorem answer_read_2_w {b_u0 : Nat} (M : Av) (u0 : Str) (r : Int × Bool × Str) (hm : answer_read_2 u0 = some r) (w : World) (hS : S0 M [eB b_u0 [vS u0],Ent.gifc 2,Ent.gifc 3] w) : Calls Tryz.prog 60 ⟨[vP b_u0]⟩ w (fun e w' => ∃ v,e = .returned v ∧ v = vW [vI r.1,vB r.2.1] ∧ SH M (fpl [eB b_u0 [vS u0],Ent.gifc 2,Ent.gifc 3]) w [eB b_u0 [vS r.2.2]] w'):=by
 rw [answer_read_2] at hm
 have hS0 : SH M (fpl [eB b_u0 [vS u0],Ent.gifc 2,Ent.gifc 3]) w [eB b_u0 [vS u0],Ent.gifc 2,Ent.gifc 3] w:=hS
 generalize hX : fpl [eB b_u0 [vS u0],Ent.gifc 2,Ent.gifc 3] = X at hS0 ⊢
 clear hS hX
 have hS:=hS0
 clear hS0
 refine calls_entryP Tryz.func60 rfl Tryz.ntmps60 rfl fun _ H => ?_
 refine s_reg [] [0] [(0,[],vP b_u0)] [] H (by kernel_rfl) trivial fun _ _ H2 hb => ?_
 replace hS:=hS.below hb
 clear H hb
 obtain ⟨y3,hy3,hm⟩:=bindE hm
 refine s_reg [(vS u0),(vI y3)] [0,3] (fS [0,3] [vP b_u0,vI y3]) [rA b_u0 0 (vS u0),rB 61 [vS u0,vS [32,44,93]] (vI y3)] H2 (by kernel_rfl) ⟨((hS.bk 0 rfl).at1 rfl),(x_strings_IndexAny_ok _ _ _ hy3 _),trivial⟩ fun _ _ H5 hb => ?_
 replace hS:=hS.below hb
 clear H2 hb
 apply w_seq
 refine s_reg [] [0,3,9] (fS [0,3,9] [vP b_u0,vI y3,vB (decide (y3 < 0))]) [] H5 (by kernel_rfl) trivial fun _ _ H7 hb => ?_
 replace hS:=hS.below hb
 clear H5 hb
 refine w_if H7 rfl (fun hc => ?c34) (fun hc => ?_)
 case c34 =>
  replace hm:=bT hc hm
  refine s_reg [] [1,2] (fS [1,2] [vI 0,vF]) [] H7 (by kernel_rfl) trivial fun _ _ H9 hb => ?_
  replace hS:=hS.below hb
  clear H7 hb
  apply w_ret
  obtain rfl:=someE hm
  exact retR2 H9 rfl rfl rfl ⟨_,rfl,rfl,(hS.sel [0] rfl)⟩
 replace hm:=bF hc hm
 apply w_skip
 apply w_seq
 apply wl_start
 obtain ⟨ho10,hm⟩:=chkE hm
 refine wl_batch 0 3 [(vS u0)] [0,3,13] (fS [0,3,13] [vP b_u0,vI y3,vS (sub u0 0 y3)]) [rA b_u0 0 (vS u0),fun _ => 0 ≤ y3 ∧ y3 ≤ ln u0] H7 (by decide) (by kernel_rfl) ⟨((hS.bk 0 rfl).at1 rfl),ho10,trivial⟩ fun _ _ H12 hb => ?_
 replace hS:=hS.below hb
 clear H7 hb
 obtain ⟨y13,hy13,hm⟩:=bindE hm
 have hd:=hS.hand [1,2] [0,1,2] rfl rfl
 refine m_stp [14,0,3] (fS [0,3] [vP b_u0,vI y3]) H12 rfl rfl rfl rfl (o_callx H12 rfl rfl (x_Atoi_ok _ _ hy13 _ _ hd)) (fun _ => rfl) fun _ _ v H15 hq => ?_
 clear H12 hd
 obtain ⟨g16,rfl,hq⟩:=hq
 replace hS : SH M X w [eB b_u0 [vS u0],Ent.gifc 2,Ent.gifc 3] _:=hS.join [1,2] [0,1,2] rfl rfl hq
 clear hq
 generalize hz_z17 : y13.2 = z17 at H15 hm
 cases z17
 case false =>
  replace hm:=bF rfl hm
  refine wl_batch 4 9 [] [0,3,4,5] (fS [0,3,4,5] [vP b_u0,vI y3,vI y13.1,.iface 128 (.pointer g16.a)]) [] H15 (by decide) (by kernel_rfl) trivial fun _ _ H27 hb => ?_
  replace hS:=hS.below hb
  clear H15 hb
  apply wl_end rfl
  apply w_seq
  apply wl_start
  refine wl_batch 0 3 [(vS u0)] [0,4,5,19] (fS [0,4,5,19] [vP b_u0,vI y13.1,.iface 128 (.pointer g16.a),vS (sub u0 y3 (ln u0))]) [rA b_u0 0 (vS u0),fun _ => 0 ≤ y3 ∧ y3 ≤ ln u0] H27 (by decide) (by kernel_rfl) ⟨((hS.bk 0 rfl).at1 rfl),ho10,trivial⟩ fun _ _ H29 hb => ?_
  replace hS:=hS.below hb
  clear H27 hb
  have hd:=hS.hand [0] [1,2] rfl rfl
  refine m_stp0 [4,5] (fS [4,5] [vI y13.1,.iface 128 (.pointer g16.a)]) H29 rfl rfl rfl (o_store [vS (sub u0 y3 (ln u0))] H29 hd rfl rfl (by kernel_rfl) rfl rfl rfl) rfl fun _ _ H31 hq => ?_
  clear H29 hd
  obtain ⟨_,hq⟩:=hq
  replace hS : SH M X w [eB b_u0 [vS (sub u0 y3 (ln u0))],Ent.gifc 2,Ent.gifc 3] _:=hS.join [0] [1,2] rfl rfl hq
  clear hq
  apply wl_end rfl
  refine s_draw [] [1,2] (fS [1,2] [vI y13.1,vF]) [] H31 (by kernel_rfl) (by kernel_rfl) (by kernel_rfl) trivial fun _ _ H33 hb => ?_
  replace hS:=hS.below hb
  clear H31 hb
  apply w_ret
  obtain rfl:=someE hm
  exact retR2 H33 rfl rfl rfl ⟨_,rfl,rfl,(hS.sel [0] rfl)⟩
 replace hm:=bT rfl hm
 refine wl_batch 4 9 [] [0,3,4,5] (fS [0,3,4,5] [vP b_u0,vI y3,vI y13.1,.nilIface]) [] H15 (by decide) (by kernel_rfl) trivial fun _ _ H19 hb => ?_
 replace hS:=hS.below hb
 clear H15 hb
 apply wl_end rfl
 apply w_seq
 apply wl_start
 refine wl_batch 0 3 [(vS u0)] [0,4,5,19] (fS [0,4,5,19] [vP b_u0,vI y13.1,.nilIface,vS (sub u0 y3 (ln u0))]) [rA b_u0 0 (vS u0),fun _ => 0 ≤ y3 ∧ y3 ≤ ln u0] H19 (by decide) (by kernel_rfl) ⟨((hS.bk 0 rfl).at1 rfl),ho10,trivial⟩ fun _ _ H21 hb => ?_
 replace hS:=hS.below hb
 clear H19 hb
 have hd:=hS.hand [0] [1,2] rfl rfl
 refine m_stp0 [4,5] (fS [4,5] [vI y13.1,.nilIface]) H21 rfl rfl rfl (o_store [vS (sub u0 y3 (ln u0))] H21 hd rfl rfl (by kernel_rfl) rfl rfl rfl) rfl fun _ _ H23 hq => ?_
 clear H21 hd
 obtain ⟨_,hq⟩:=hq
 replace hS : SH M X w [eB b_u0 [vS (sub u0 y3 (ln u0))],Ent.gifc 2,Ent.gifc 3] _:=hS.join [0] [1,2] rfl rfl hq
 clear hq
 apply wl_end rfl
 refine s_draw [] [1,2] (fS [1,2] [vI y13.1,vT]) [] H23 (by kernel_rfl) (by kernel_rfl) (by kernel_rfl) trivial fun _ _ H25 hb => ?_
 replace hS:=hS.below hb
 clear H23 hb
 apply w_ret
 obtain rfl:=someE hm
 exact retR2 H25 rfl rfl rfl ⟨_,rfl,rfl,(hS.sel [0] rfl)⟩
theorem answer_read_2_ok {b_u0 : Nat} (u0 : Str) (r : Int × Bool × Str) (hm : answer_read_2 u0 = some r) (M : Av) (w : World) (hS : S0 M [eB b_u0 [vS u0],Ent.gifc 2,Ent.gifc 3] w) : DoesX Tryz.prog 60 ⟨[vP b_u0]⟩ w (fun v w' => v = vW [vI r.1,vB r.2.1] ∧ SH M (fpl [eB b_u0 [vS u0],Ent.gifc 2,Ent.gifc 3]) w [eB b_u0 [vS r.2.2]] w'):=⟨Tryz.call60 _,answer_read_2_w M   u0 r hm w hS⟩

theorem stringslite_HasPrefix_w  (M : Av) (s : Str) (prefix_ : Str) (r : Bool) (hm : stringslite_HasPrefix s prefix_ = some r) (w : World) (hS : S0 M [] w) : Calls Tryz.prog 88 ⟨[vS s,vS prefix_]⟩ w (fun e w' => ∃ v,e = .returned v ∧ v = vB r ∧ SH M (fpl []) w [] w'):=by
 rw [stringslite_HasPrefix] at hm
 have hS0 : SH M (fpl []) w [] w:=hS
 generalize hX : fpl [] = X at hS0 ⊢
 clear hS hX
 have hS:=hS0
 clear hS0
 refine calls_entryP Tryz.func88 rfl Tryz.ntmps88 rfl fun _ H => ?_
 refine s_reg [] [0,1] (fS [0,1] [vS s,vS prefix_]) [] H (by kernel_rfl) trivial fun _ _ H2 hb => ?_
 replace hS:=hS.below hb
 clear H hb
 obtain ⟨ho3,hm⟩:=chkE hm
 obtain ⟨x4,hx4,hm⟩:=letE hm
 refine s_reg [] [4] [(4,[],vB x4)] [fun _ => ((decide ((ln prefix_) ≤ (ln s))) = true ∧ True → 0 ≤ (ln prefix_) ∧ (ln prefix_) ≤ ln s)] H2 (by subst hx4; kernel_rfl) ⟨fun hg => (ho3 hg.1),trivial⟩ fun _ _ H6 hb => ?_
 replace hS:=hS.below hb
 clear H2 hb
 apply w_ret
 obtain rfl:=someE hm
 exact retR1 H6 rfl rfl ⟨_,rfl,rfl,(hS.sel [] rfl)⟩
theorem stringslite_HasPrefix_ok  (s : Str) (prefix_ : Str) (r : Bool) (hm : stringslite_HasPrefix s prefix_ = some r) : Ret Tryz.prog 88 ⟨[vS s,vS prefix_]⟩ (vB r):=retP_of (Tryz.call88 _) (fun w h => stringslite_HasPrefix_w F0   s prefix_ r hm w h)

theorem stringslite_CutPrefix_w  (M : Av) (s : Str) (prefix_ : Str) (r : Str × Bool) (hm : stringslite_CutPrefix s prefix_ = some r) (w : World) (hS : S0 M [] w) : Calls Tryz.prog 73 ⟨[vS s,vS prefix_]⟩ w (fun e w' => ∃ v,e = .returned v ∧ v = vW [vS r.1,vB r.2] ∧ SH M (fpl []) w [] w'):=by
 rw [stringslite_CutPrefix] at hm
 have hS0 : SH M (fpl []) w [] w:=hS
 generalize hX : fpl [] = X at hS0 ⊢
 clear hS hX
 have hS:=hS0
 clear hS0
 refine calls_entryP Tryz.func73 rfl Tryz.ntmps73 rfl fun _ H => ?_
 refine s_reg [] [0,1] (fS [0,1] [vS s,vS prefix_]) [] H (by kernel_rfl) trivial fun _ _ H2 hb => ?_
 replace hS:=hS.below hb
 clear H hb
 apply w_seq
 obtain ⟨y3,hy3,hm⟩:=bindE hm
 refine s_reg [(vB y3)] [0,1,9] (fS [0,1,9] [vS s,vS prefix_,vB (!y3)]) [rB 88 [vS s,vS prefix_] (vB y3)] H2 (by kernel_rfl) ⟨((stringslite_HasPrefix_ok _ _ _ hy3).b),trivial⟩ fun _ _ H5 hb => ?_
 replace hS:=hS.below hb
 clear H2 hb
 refine w_if H5 rfl (fun hc => ?c11) (fun hc => ?_)
 case c11 =>
  replace hm:=bT hc hm
  refine s_reg [] [4,5] (fS [4,5] [vS s,vF]) [] H5 (by kernel_rfl) trivial fun _ _ H7 hb => ?_
  replace hS:=hS.below hb
  clear H5 hb
  apply w_ret
  obtain rfl:=someE hm
  exact retR2 H7 rfl rfl rfl ⟨_,rfl,rfl,(hS.sel [] rfl)⟩
 replace hm:=bF hc hm
 apply w_skip
 obtain ⟨ho8,hm⟩:=chkE hm
 refine s_reg [] [4,5] (fS [4,5] [vS (sub s (ln prefix_) (ln s)),vT]) [fun _ => 0 ≤ (ln prefix_) ∧ (ln prefix_) ≤ ln s] H5 (by kernel_rfl) ⟨ho8,trivial⟩ fun _ _ H10 hb => ?_
 replace hS:=hS.below hb
 clear H5 hb
 apply w_ret
 obtain rfl:=someE hm
 exact retR2 H10 rfl rfl rfl ⟨_,rfl,rfl,(hS.sel [] rfl)⟩
theorem stringslite_CutPrefix_ok  (s : Str) (prefix_ : Str) (r : Str × Bool) (hm : stringslite_CutPrefix s prefix_ = some r) : Ret Tryz.prog 73 ⟨[vS s,vS prefix_]⟩ (vW [vS r.1,vB r.2]):=retP_of (Tryz.call73 _) (fun w h => stringslite_CutPrefix_w F0   s prefix_ r hm w h)

theorem strings_CutPrefix_w  (M : Av) (s : Str) (prefix_ : Str) (r : Str × Bool) (hm : strings_CutPrefix s prefix_ = some r) (w : World) (hS : S0 M [] w) : Calls Tryz.prog 59 ⟨[vS s,vS prefix_]⟩ w (fun e w' => ∃ v,e = .returned v ∧ v = vW [vS r.1,vB r.2] ∧ SH M (fpl []) w [] w'):=by
 rw [strings_CutPrefix] at hm
 have hS0 : SH M (fpl []) w [] w:=hS
 generalize hX : fpl [] = X at hS0 ⊢
 clear hS hX
 have hS:=hS0
 clear hS0
 refine calls_entryP Tryz.func59 rfl Tryz.ntmps59 rfl fun _ H => ?_
 refine s_reg [] [0,1] (fS [0,1] [vS s,vS prefix_]) [] H (by kernel_rfl) trivial fun _ _ H2 hb => ?_
 replace hS:=hS.below hb
 clear H hb
 obtain ⟨y3,hy3,hm⟩:=bindE hm
 refine s_reg [(vW [vS y3.1,vB y3.2])] [4,5] (fS [4,5] [vS y3.1,vB y3.2]) [rB 73 [vS s,vS prefix_] (vW [vS y3.1,vB y3.2])] H2 (by kernel_rfl) ⟨((stringslite_CutPrefix_ok _ _ _ hy3).b),trivial⟩ fun _ _ H5 hb => ?_
 replace hS:=hS.below hb
 clear H2 hb
 apply w_ret
 obtain rfl:=someE hm
 exact retR2 H5 rfl rfl rfl ⟨_,rfl,rfl,(hS.sel [] rfl)⟩
theorem strings_CutPrefix_ok  (s : Str) (prefix_ : Str) (r : Str × Bool) (hm : strings_CutPrefix s prefix_ = some r) : Ret Tryz.prog 59 ⟨[vS s,vS prefix_]⟩ (vW [vS r.1,vB r.2]):=retP_of (Tryz.call59 _) (fun w h => strings_CutPrefix_w F0   s prefix_ r hm w h)

theorem answer_read_1_w {b_u0 : Nat} (M : Av) (what : Str) (u0 : Str) (r : Bool × Str) (hm : answer_read_1 what u0 = some r) (w : World) (hS : S0 M [eB b_u0 [vS u0]] w) : Calls Tryz.prog 58 ⟨[vS what,vP b_u0]⟩ w (fun e w' => ∃ v,e = .returned v ∧ v = vB r.1 ∧ SH M (fpl [eB b_u0 [vS u0]]) w [eB b_u0 [vS r.2]] w'):=by
 rw [answer_read_1] at hm
 have hS0 : SH M (fpl [eB b_u0 [vS u0]]) w [eB b_u0 [vS u0]] w:=hS
 generalize hX : fpl [eB b_u0 [vS u0]] = X at hS0 ⊢
 clear hS hX
 have hS:=hS0
 clear hS0
 refine calls_entryP Tryz.func58 rfl Tryz.ntmps58 rfl fun _ H => ?_
 refine s_reg [] [0,1] (fS [0,1] [vS what,vP b_u0]) [] H (by kernel_rfl) trivial fun _ _ H2 hb => ?_
 replace hS:=hS.below hb
 clear H hb
 obtain ⟨y3,hy3,hm⟩:=bindE hm
 refine s_reg [(vS u0),(vW [vS y3.1,vB y3.2])] [1,4,5] (fS [1,4,5] [vP b_u0,vS y3.1,vB y3.2]) [rA b_u0 0 (vS u0),rB 59 [vS u0,vS what] (vW [vS y3.1,vB y3.2])] H2 (by kernel_rfl) ⟨((hS.bk 0 rfl).at1 rfl),((strings_CutPrefix_ok _ _ _ hy3).b),trivial⟩ fun _ _ H5 hb => ?_
 replace hS:=hS.below hb
 clear H2 hb
 apply w_seq
 apply wl_start
 refine wl_batch 0 1 [] [1,5,12] (fS [1,5,12] [vP b_u0,vB y3.2,vS y3.1]) [] H5 (by decide) (by kernel_rfl) trivial fun _ _ H7 hb => ?_
 replace hS:=hS.below hb
 clear H5 hb
 have hd:=hS.hand [0] [] rfl rfl
 refine m_stp0 [5] [(5,[],vB y3.2)] H7 rfl rfl rfl (o_store [vS y3.1] H7 hd rfl rfl (by kernel_rfl) rfl rfl rfl) rfl fun _ _ H9 hq => ?_
 clear H7 hd
 obtain ⟨_,hq⟩:=hq
 replace hS : SH M X w [eB b_u0 [vS y3.1]] _:=hS.join [0] [] rfl rfl hq
 clear hq
 apply wl_end rfl
 refine s_reg [] [3] [(3,[],vB y3.2)] [] H9 (by kernel_rfl) trivial fun _ _ H11 hb => ?_
 replace hS:=hS.below hb
 clear H9 hb
 apply w_ret
 obtain rfl:=someE hm
 exact retR1 H11 rfl rfl ⟨_,rfl,rfl,(hS.sel [0] rfl)⟩
theorem answer_read_1_ok {b_u0 : Nat} (what : Str) (u0 : Str) (r : Bool × Str) (hm : answer_read_1 what u0 = some r) (M : Av) (w : World) (hS : S0 M [eB b_u0 [vS u0]] w) : DoesX Tryz.prog 58 ⟨[vS what,vP b_u0]⟩ w (fun v w' => v = vB r.1 ∧ SH M (fpl [eB b_u0 [vS u0]]) w [eB b_u0 [vS r.2]] w'):=⟨Tryz.call58 _,answer_read_1_w M   what u0 r hm w hS⟩

theorem strings_HasPrefix_w  (M : Av) (s : Str) (prefix_ : Str) (r : Bool) (hm : strings_HasPrefix s prefix_ = some r) (w : World) (hS : S0 M [] w) : Calls Tryz.prog 80 ⟨[vS s,vS prefix_]⟩ w (fun e w' => ∃ v,e = .returned v ∧ v = vB r ∧ SH M (fpl []) w [] w'):=by
 rw [strings_HasPrefix] at hm
 have hS0 : SH M (fpl []) w [] w:=hS
 generalize hX : fpl [] = X at hS0 ⊢
 clear hS hX
 have hS:=hS0
 clear hS0
 refine calls_entryP Tryz.func80 rfl Tryz.ntmps80 rfl fun _ H => ?_
 refine s_reg [] [0,1] (fS [0,1] [vS s,vS prefix_]) [] H (by kernel_rfl) trivial fun _ _ H2 hb => ?_
 replace hS:=hS.below hb
 clear H hb
 obtain ⟨y3,hy3,hm⟩:=bindE hm
 refine s_reg [(vB y3)] [4] [(4,[],vB y3)] [rB 88 [vS s,vS prefix_] (vB y3)] H2 (by kernel_rfl) ⟨((stringslite_HasPrefix_ok _ _ _ hy3).b),trivial⟩ fun _ _ H5 hb => ?_
 replace hS:=hS.below hb
 clear H2 hb
 apply w_ret
 obtain rfl:=someE hm
 exact retR1 H5 rfl rfl ⟨_,rfl,rfl,(hS.sel [] rfl)⟩
theorem strings_HasPrefix_ok  (s : Str) (prefix_ : Str) (r : Bool) (hm : strings_HasPrefix s prefix_ = some r) : Ret Tryz.prog 80 ⟨[vS s,vS prefix_]⟩ (vB r):=retP_of (Tryz.call80 _) (fun w h => strings_HasPrefix_w F0   s prefix_ r hm w h)

theorem answer_hex_w  (M : Av) (c_ : Int) (r : Int) (hm : answer_hex c_ = r) (w : World) (hS : S0 M [] w) : Calls Tryz.prog 81 ⟨[vU c_]⟩ w (fun e w' => ∃ v,e = .returned v ∧ v = vI r ∧ SH M (fpl []) w [] w'):=by
 rw [answer_hex] at hm
 have hS0 : SH M (fpl []) w [] w:=hS
 generalize hX : fpl [] = X at hS0 ⊢
 clear hS hX
 have hS:=hS0
 clear hS0
 refine calls_entryP Tryz.func81 rfl Tryz.ntmps81 rfl fun _ H => ?_
 refine s_reg [] [0] [(0,[],vU c_)] [] H (by kernel_rfl) trivial fun _ _ H2 hb => ?_
 replace hS:=hS.below hb
 clear H hb
 obtain ⟨y3,hy3,hm⟩:=letE hm
 refine s_reg [(vI y3)] [2] [(2,[],vI y3)] [rB 43 [vS [48,49,50,51,52,53,54,55,56,57,97,98,99,100,101,102],vU c_] (vI y3)] H2 (by subst hy3; kernel_rfl) ⟨((by rw [hy3]; exact (strings_IndexByte_ok _ _).b)),trivial⟩ fun _ _ H5 hb => ?_
 replace hS:=hS.below hb
 clear H2 hb
 apply w_ret
 subst hm
 exact retR1 H5 rfl rfl ⟨_,rfl,rfl,(hS.sel [] rfl)⟩
theorem answer_hex_ok  (c_ : Int) : Ret Tryz.prog 81 ⟨[vU c_]⟩ (vI (answer_hex c_)):=retP_of (Tryz.call81 _) (fun w h => answer_hex_w F0   c_ _ rfl w h)

theorem answer_unquote_w  (M : Av) (m : Nat) (s : Str) (r : Str × Int) (hm : answer_unquote m s = some r) (w : World) (hS : S0 M [] w) : Calls Tryz.prog 65 ⟨[vS s]⟩ w (fun e w' => ∃ v,e = .returned v ∧ v = vW [vS r.1,vI r.2] ∧ SH M (fpl []) w [] w'):=by
 rw [answer_unquote] at hm
 have hS0 : SH M (fpl []) w [] w:=hS
 generalize hX : fpl [] = X at hS0 ⊢
 clear hS hX
 have hS:=hS0
 clear hS0
 refine calls_entryP Tryz.func65 rfl Tryz.ntmps65 rfl fun _ H => ?_
 refine s_reg [] [0] [(0,[],vS s)] [] H (by kernel_rfl) trivial fun _ _ H2 hb => ?_
 replace hS:=hS.below hb
 clear H hb
 refine s_reg [] [0,4] (fS [0,4] [vS s,vO]) [] H2 (by kernel_rfl) trivial fun _ _ H4 hb => ?_
 replace hS:=hS.below hb
 clear H2 hb
 obtain ⟨z5,hz,hm_z5⟩:=bindE hm
 refine w_cut (fun a' w' => ∃ s_z5 : Unit,z5 = Sum.inr s_z5 ∧ Fr 97 [] a' ∧ SH M X w [] w') ?_ ?_
 ·replace hm:=hz
  refine s_reg [] [0,4,5] (fS [0,4,5] [vS s,vO,vI 0]) [] H4 (by kernel_rfl) trivial fun _ _ H7 hb => ?_
  replace hS:=hS.below hb
  clear H4 hb
  apply w_block
  replace hS : SH M X w [eO 5 (tI .u8) ([] : List Int) (.nil)] _:=hS.addNil 5 (tI .u8)
  refine w_loop (fun kk a' w' => ∃ (v9 : List Int) (v11 : Int) (g10 : Gh),answer_unquote_L1 m s kk v9 v11 = some _ ∧ Fr 97 (fS [0,4,5] [vS s,vL g10 v9,vI v11]) a' ∧ SH M X w [eO 5 (tI .u8) v9 g10] w') ⟨_,([] : List Int),0,Gh.nil,hm,FrG.keep (ks:=[0,4,5]) H7 (by kernel_rfl),hS⟩ ?_
  clear hm H7 hS
  rintro kk _ _ ⟨v9,v11,g10,hm,H,hS⟩
  cases kk with
  | zero => exact noneE hm
  | succ kk =>
   rw [answer_unquote_L1] at hm
   apply w_seq
   refine s_reg [] [0,4,5,11] (fS [0,4,5,11] [vS s,vL g10 v9,vI v11,vB (decide (v11 < (ln s)))]) [] H (by kernel_rfl) trivial fun _ _ H13 hb => ?_
   replace hS:=hS.below hb
   clear H hb
   refine w_if H13 rfl (fun hc => ?_) (fun hc => ?c113)
   case c113 =>
    replace hm:=bF hc hm
    apply w_exit rfl
    obtain rfl:=someE hm
    replace hS : SH M X w [] _:=hS.sel [] rfl
    exact ⟨_,rfl,FrG.keep (ks:=[]) H13 (by kernel_rfl),hS⟩
   replace hm:=bT hc hm
   apply w_skip
   obtain ⟨z14,hz,hm_z14⟩:=bindE hm
   refine w_cut (fun a' w' => ∃ s_z14 : Int × (List Int),z14 = Sum.inr s_z14 ∧ ∃ (g109 : Gh),Fr 97 (fS [0,4,5] [vS s,vL g109 s_z14.2,vI s_z14.1]) a' ∧ SH M X w [eO 5 (tI .u8) s_z14.2 g109] w') ?_ ?_
   ·replace hm:=hz
    apply w_block
    apply w_block
    obtain ⟨ho15,hm⟩:=chkE hm
    refine s_reg [] [0,4,5,14] (fS [0,4,5,14] [vS s,vL g10 v9,vI v11,vB ((bat s v11) == 34)]) [fun _ => 0 ≤ v11 ∧ v11 < ln s] H13 (by kernel_rfl) ⟨ho15,trivial⟩ fun _ _ H17 hb => ?_
    replace hS:=hS.below hb
    clear H13 hb
    refine w_if H17 rfl (fun hc => ?c108) (fun hc => ?_)
    case c108 =>
     replace hm:=bT hc hm
     refine s_reg [(vS (toB v9))] [2,3] (fS [2,3] [vS (toB v9),vI (w64 (v11 + 1))]) [fun wz => ∀ w',Below wz.heap.size wz w' → (convert 46 9 (vL g10 v9)).run Tryz.prog w' = .ok (vS (toB v9)) w'] H17 (by kernel_rfl) ⟨(conv_slG (E:=5) (by kernel_rfl) (by kernel_rfl) (by kernel_rfl) (hS.osl 0 rfl)),trivial⟩ fun _ _ H19 hb => ?_
     replace hS:=hS.below hb
     clear H17 hb
     apply w_ret
     obtain rfl:=someE hm
     have hm:=hm_z14
     obtain rfl:=someE hm
     have hm:=hm_z5
     obtain rfl:=someE hm
     exact retR2 H19 rfl rfl rfl ⟨_,rfl,rfl,(hS.sel [] rfl)⟩
    replace hm:=bF hc hm
    refine s_reg [] [0,4,5,23] (fS [0,4,5,23] [vS s,vL g10 v9,vI v11,vB ((bat s v11) != 92)]) [fun _ => 0 ≤ v11 ∧ v11 < ln s] H17 (by kernel_rfl) ⟨ho15,trivial⟩ fun _ _ H21 hb => ?_
    replace hS:=hS.below hb
    clear H17 hb
    refine w_if H21 rfl (fun hc => ?c107) (fun hc => ?_)
    case c107 =>
     replace hm:=bT hc hm
     apply wl_start
     refine wl_batch 0 4 [] [0,5,28,31] (fS [0,5,28,31] [vS s,vI v11,vL g10 v9,vU (bat s v11)]) [fun _ => 0 ≤ v11 ∧ v11 < ln s] H21 (by decide) (by kernel_rfl) ⟨ho15,trivial⟩ fun _ _ H23 hb => ?_
     replace hS:=hS.below hb
     clear H21 hb
     have hd:=hS.hand [] [0] rfl rfl
     refine m_stp [32,0,5,28] (fS [0,5,28] [vS s,vI v11,vL g10 v9]) H23 rfl rfl rfl rfl (o_lit (T:=(tI .u8)) (E:=5) (zv:=vU 0) [vU (bat s v11)] ([bat s v11] : List Int) [gL []] _ H23 hd rfl (by kernel_rfl) (by kernel_rfl) (by kernel_rfl) (by kernel_rfl) (by kernel_rfl) (by kernel_rfl) (by kernel_rfl) rfl (InnL.cons trivial InnL.nil)) (fun _ => rfl) fun _ _ v H27 hq => ?_
     clear H23 hd
     obtain ⟨g24,rfl,hq⟩:=hq
     replace hS : SH M X w [eO 5 (tI .u8) ([bat s v11] : List Int) g24,eO 5 (tI .u8) v9 g10] _:=hS.join [] [0] rfl rfl hq
     clear hq
     obtain ⟨ho28,hm⟩:=chkE hm
     obtain ⟨q29,hq29,hm⟩:=letE hm
     have hd:=hS.hand [1,0] [] rfl rfl
     refine m_stp [33,0,5] (fS [0,5] [vS s,vI v11]) H27 rfl rfl rfl rfl (o_app2 (T:=(tI .u8)) (zv:=vU 0) (g1:=g10) (g2:=g24) (l1:=v9) (l2:=([bat s v11] : List Int)) q29 hq29.symm H27 hd rfl rfl rfl rfl rfl rfl rfl (by kernel_rfl) (by kernel_rfl) rfl rfl ho28) (fun _ => rfl) fun _ _ v H31 hq => ?_
     clear H27 hd
     obtain ⟨g32,rfl,hq⟩:=hq
     replace hS : SH M X w [eO 5 (tI .u8) q29 g32,eO 5 (tI .u8) ([bat s v11] : List Int) g24] _:=hS.join [1,0] [] rfl rfl hq
     clear hq
     refine wl_batch 6 7 [] [0,4,5] (fS [0,4,5] [vS s,vL g32 q29,vI v11]) [] H31 (by decide) (by kernel_rfl) trivial fun _ _ H34 hb => ?_
     replace hS:=hS.below hb
     clear H31 hb
     apply wl_end rfl
     replace hS : SH M X w [eO 5 (tI .u8) q29 g32] _:=hS.sel [0] rfl
     obtain rfl:=someE hm
     exact ⟨_,rfl,g32,FrG.keep (ks:=[0,4,5]) H34 (by kernel_rfl),hS⟩
    replace hm:=bF hc hm
    obtain ⟨ho35,hm⟩:=chkE hm
    obtain ⟨y36,hy36,hm⟩:=bindE hm
    refine s_reg [(vB y36)] [0,4,5,34] (fS [0,4,5,34] [vS s,vL g10 v9,vI v11,vB y36]) [fun _ => 0 ≤ v11 ∧ v11 ≤ ln s,rB 80 [vS (sub s v11 (ln s)),vS [92,110]] (vB y36)] H21 (by kernel_rfl) ⟨ho35,((strings_HasPrefix_ok _ _ _ hy36).b),trivial⟩ fun _ _ H38 hb => ?_
    replace hS:=hS.below hb
    clear H21 hb
    refine w_if H38 rfl (fun hc => ?c106) (fun hc => ?_)
    case c106 =>
     replace hm:=bT hc hm
     apply w_seq
     apply wl_start
     refine wl_batch 0 1 [] [0,5,39] (fS [0,5,39] [vS s,vI v11,vL g10 v9]) [] H38 (by decide) (by kernel_rfl) trivial fun _ _ H40 hb => ?_
     replace hS:=hS.below hb
     clear H38 hb
     have hd:=hS.hand [] [0] rfl rfl
     refine m_stp [40,0,5,39] (fS [0,5,39] [vS s,vI v11,vL g10 v9]) H40 rfl rfl rfl rfl (o_lit (T:=(tI .u8)) (E:=5) (zv:=vU 0) [vU 10] ([10] : List Int) [gL []] _ H40 hd rfl (by kernel_rfl) (by kernel_rfl) (by kernel_rfl) (by kernel_rfl) (by kernel_rfl) (by kernel_rfl) (by kernel_rfl) rfl (InnL.cons trivial InnL.nil)) (fun _ => rfl) fun _ _ v H44 hq => ?_
     clear H40 hd
     obtain ⟨g41,rfl,hq⟩:=hq
     replace hS : SH M X w [eO 5 (tI .u8) ([10] : List Int) g41,eO 5 (tI .u8) v9 g10] _:=hS.join [] [0] rfl rfl hq
     clear hq
     obtain ⟨ho45,hm⟩:=chkE hm
     obtain ⟨q46,hq46,hm⟩:=letE hm
     have hd:=hS.hand [1,0] [] rfl rfl
     refine m_stp [41,0,5] (fS [0,5] [vS s,vI v11]) H44 rfl rfl rfl rfl (o_app2 (T:=(tI .u8)) (zv:=vU 0) (g1:=g10) (g2:=g41) (l1:=v9) (l2:=([10] : List Int)) q46 hq46.symm H44 hd rfl rfl rfl rfl rfl rfl rfl (by kernel_rfl) (by kernel_rfl) rfl rfl ho45) (fun _ => rfl) fun _ _ v H48 hq => ?_
     clear H44 hd
     obtain ⟨g49,rfl,hq⟩:=hq
     replace hS : SH M X w [eO 5 (tI .u8) q46 g49,eO 5 (tI .u8) ([10] : List Int) g41] _:=hS.join [1,0] [] rfl rfl hq
     clear hq
     refine wl_batch 3 4 [] [0,4,5] (fS [0,4,5] [vS s,vL g49 q46,vI v11]) [] H48 (by decide) (by kernel_rfl) trivial fun _ _ H51 hb => ?_
     replace hS:=hS.below hb
     clear H48 hb
     apply wl_end rfl
     replace hS : SH M X w [eO 5 (tI .u8) q46 g49] _:=hS.sel [0] rfl
     refine w_reg [] [0,4,5] (fS [0,4,5] [vS s,vL g49 q46,vI (w64 (v11 + 1))]) [] H51 (by kernel_rfl) trivial fun _ _ H53 hb => ?_
     replace hS:=hS.below hb
     clear H51 hb
     obtain rfl:=someE hm
     exact ⟨_,rfl,g49,FrG.keep (ks:=[0,4,5]) H53 (by kernel_rfl),hS⟩
    replace hm:=bF hc hm
    obtain ⟨y54,hy54,hm⟩:=bindE hm
    obtain ⟨x55,hx55,hm⟩:=letE hm
    refine s_reg [(vB y54)] [0,4,5,44] (fS [0,4,5,44] [vS s,vL g10 v9,vI v11,vB x55]) [fun _ => 0 ≤ v11 ∧ v11 ≤ ln s,rB 80 [vS (sub s v11 (ln s)),vS [92,120]] (vB y54)] H38 (by subst hx55; kernel_rfl) ⟨ho35,((strings_HasPrefix_ok _ _ _ hy54).b),trivial⟩ fun _ _ H57 hb => ?_
    replace hS:=hS.below hb
    clear H38 hb
    refine w_if H57 rfl (fun hc => ?_) (fun hc => ?c105)
    case c105 =>
     replace hm:=bF hc hm
     refine s_reg [] [0,4,5,82] (fS [0,4,5,82] [vS s,vL g10 v9,vI v11,vB (decide ((w64 (v11 + 1)) < (ln s)))]) [] H57 (by kernel_rfl) trivial fun _ _ H87 hb => ?_
     replace hS:=hS.below hb
     clear H57 hb
     refine w_if H87 rfl (fun hc => ?_) (fun hc => ?c104)
     case c104 =>
      replace hm:=bF hc hm
      apply w_skip
      obtain rfl:=someE hm
      exact ⟨_,rfl,g10,FrG.keep (ks:=[0,4,5]) H87 (by kernel_rfl),hS⟩
     replace hm:=bT hc hm
     apply w_seq
     apply wl_start
     obtain ⟨ho88,hm⟩:=chkE hm
     refine wl_batch 0 5 [] [0,5,88,92] (fS [0,5,88,92] [vS s,vI v11,vL g10 v9,vU (bat s (w64 (v11 + 1)))]) [fun _ => 0 ≤ (w64 (v11 + 1)) ∧ (w64 (v11 + 1)) < ln s] H87 (by decide) (by kernel_rfl) ⟨ho88,trivial⟩ fun _ _ H90 hb => ?_
     replace hS:=hS.below hb
     clear H87 hb
     have hd:=hS.hand [] [0] rfl rfl
     refine m_stp [93,0,5,88] (fS [0,5,88] [vS s,vI v11,vL g10 v9]) H90 rfl rfl rfl rfl (o_lit (T:=(tI .u8)) (E:=5) (zv:=vU 0) [vU (bat s (w64 (v11 + 1)))] ([bat s (w64 (v11 + 1))] : List Int) [gL []] _ H90 hd rfl (by kernel_rfl) (by kernel_rfl) (by kernel_rfl) (by kernel_rfl) (by kernel_rfl) (by kernel_rfl) (by kernel_rfl) rfl (InnL.cons trivial InnL.nil)) (fun _ => rfl) fun _ _ v H94 hq => ?_
     clear H90 hd
     obtain ⟨g91,rfl,hq⟩:=hq
     replace hS : SH M X w [eO 5 (tI .u8) ([bat s (w64 (v11 + 1))] : List Int) g91,eO 5 (tI .u8) v9 g10] _:=hS.join [] [0] rfl rfl hq
     clear hq
     obtain ⟨ho95,hm⟩:=chkE hm
     obtain ⟨q96,hq96,hm⟩:=letE hm
     have hd:=hS.hand [1,0] [] rfl rfl
     refine m_stp [94,0,5] (fS [0,5] [vS s,vI v11]) H94 rfl rfl rfl rfl (o_app2 (T:=(tI .u8)) (zv:=vU 0) (g1:=g10) (g2:=g91) (l1:=v9) (l2:=([bat s (w64 (v11 + 1))] : List Int)) q96 hq96.symm H94 hd rfl rfl rfl rfl rfl rfl rfl (by kernel_rfl) (by kernel_rfl) rfl rfl ho95) (fun _ => rfl) fun _ _ v H98 hq => ?_
     clear H94 hd
     obtain ⟨g99,rfl,hq⟩:=hq
     replace hS : SH M X w [eO 5 (tI .u8) q96 g99,eO 5 (tI .u8) ([bat s (w64 (v11 + 1))] : List Int) g91] _:=hS.join [1,0] [] rfl rfl hq
     clear hq
     refine wl_batch 7 8 [] [0,4,5] (fS [0,4,5] [vS s,vL g99 q96,vI v11]) [] H98 (by decide) (by kernel_rfl) trivial fun _ _ H101 hb => ?_
     replace hS:=hS.below hb
     clear H98 hb
     apply wl_end rfl
     replace hS : SH M X w [eO 5 (tI .u8) q96 g99] _:=hS.sel [0] rfl
     refine w_reg [] [0,4,5] (fS [0,4,5] [vS s,vL g99 q96,vI (w64 (v11 + 1))]) [] H101 (by kernel_rfl) trivial fun _ _ H103 hb => ?_
     replace hS:=hS.below hb
     clear H101 hb
     obtain rfl:=someE hm
     exact ⟨_,rfl,g99,FrG.keep (ks:=[0,4,5]) H103 (by kernel_rfl),hS⟩
    replace hm:=bT hc hm
    obtain ⟨ho58,hm⟩:=chkE hm
    obtain ⟨ho59,hm⟩:=chkE hm
    refine s_draw [(vI (answer_hex (bat s (w64 (v11 + 2))))),(vI (answer_hex (bat s (w64 (v11 + 3)))))] [0,4,5,6,7] (fS [0,4,5,6,7] [vS s,vL g10 v9,vI v11,vI (answer_hex (bat s (w64 (v11 + 2)))),vI (answer_hex (bat s (w64 (v11 + 3))))]) [fun _ => 0 ≤ (w64 (v11 + 2)) ∧ (w64 (v11 + 2)) < ln s,rB 81 [vU (bat s (w64 (v11 + 2)))] (vI (answer_hex (bat s (w64 (v11 + 2))))),fun _ => 0 ≤ (w64 (v11 + 3)) ∧ (w64 (v11 + 3)) < ln s,rB 81 [vU (bat s (w64 (v11 + 3)))] (vI (answer_hex (bat s (w64 (v11 + 3)))))] H57 (by kernel_rfl) (by kernel_rfl) (by kernel_rfl) ⟨ho58,((answer_hex_ok _).b),ho59,((answer_hex_ok _).b),trivial⟩ fun _ _ H61 hb => ?_
    replace hS:=hS.below hb
    clear H57 hb
    apply w_seq
    obtain ⟨x62,hx62,hm⟩:=letE hm
    obtain ⟨x63,hx63,hm⟩:=letE hm
    refine s_reg [] [0,4,5,6,7,71] (fS [0,4,5,6,7,71] [vS s,vL g10 v9,vI v11,vI (answer_hex (bat s (w64 (v11 + 2)))),vI (answer_hex (bat s (w64 (v11 + 3)))),vB x63]) [] H61 (by subst hx62 hx63; kernel_rfl) trivial fun _ _ H65 hb => ?_
    replace hS:=hS.below hb
    clear H61 hb
    refine w_if H65 rfl (fun hc => ?c85) (fun hc => ?_)
    case c85 =>
     replace hm:=bT hc hm
     refine s_reg [] [2,3] (fS [2,3] [vN,vI 0]) [] H65 (by kernel_rfl) trivial fun _ _ H67 hb => ?_
     replace hS:=hS.below hb
     clear H65 hb
     apply w_ret
     obtain rfl:=someE hm
     have hm:=hm_z14
     obtain rfl:=someE hm
     have hm:=hm_z5
     obtain rfl:=someE hm
     exact retR2 H67 rfl rfl rfl ⟨_,rfl,rfl,(hS.sel [] rfl)⟩
    replace hm:=bF hc hm
    apply w_skip
    apply w_seq
    apply wl_start
    obtain ⟨x68,hx68,hm⟩:=letE hm
    obtain ⟨x69,hx69,hm⟩:=letE hm
    refine wl_batch 0 6 [] [0,5,72,77] (fS [0,5,72,77] [vS s,vI v11,vL g10 v9,vU (wu8 x69)]) [fun _ => (0 : Int) ≤ 4] H65 (by decide) (by subst hx68 hx69; kernel_rfl) ⟨(by show (0 : Int) ≤ 4; decide),trivial⟩ fun _ _ H71 hb => ?_
    replace hS:=hS.below hb
    clear H65 hb
    have hd:=hS.hand [] [0] rfl rfl
    refine m_stp [78,0,5,72] (fS [0,5,72] [vS s,vI v11,vL g10 v9]) H71 rfl rfl rfl rfl (o_lit (T:=(tI .u8)) (E:=5) (zv:=vU 0) [vU (wu8 x69)] ([wu8 x69] : List Int) [gL []] _ H71 hd rfl (by kernel_rfl) (by kernel_rfl) (by kernel_rfl) (by kernel_rfl) (by kernel_rfl) (by kernel_rfl) (by kernel_rfl) rfl (InnL.cons trivial InnL.nil)) (fun _ => rfl) fun _ _ v H75 hq => ?_
    clear H71 hd
    obtain ⟨g72,rfl,hq⟩:=hq
    replace hS : SH M X w [eO 5 (tI .u8) ([wu8 x69] : List Int) g72,eO 5 (tI .u8) v9 g10] _:=hS.join [] [0] rfl rfl hq
    clear hq
    obtain ⟨ho76,hm⟩:=chkE hm
    obtain ⟨q77,hq77,hm⟩:=letE hm
    have hd:=hS.hand [1,0] [] rfl rfl
    refine m_stp [79,0,5] (fS [0,5] [vS s,vI v11]) H75 rfl rfl rfl rfl (o_app2 (T:=(tI .u8)) (zv:=vU 0) (g1:=g10) (g2:=g72) (l1:=v9) (l2:=([wu8 x69] : List Int)) q77 hq77.symm H75 hd rfl rfl rfl rfl rfl rfl rfl (by kernel_rfl) (by kernel_rfl) rfl rfl ho76) (fun _ => rfl) fun _ _ v H79 hq => ?_
    clear H75 hd
    obtain ⟨g80,rfl,hq⟩:=hq
    replace hS : SH M X w [eO 5 (tI .u8) q77 g80,eO 5 (tI .u8) ([wu8 x69] : List Int) g72] _:=hS.join [1,0] [] rfl rfl hq
    clear hq
    refine wl_batch 8 9 [] [0,4,5] (fS [0,4,5] [vS s,vL g80 q77,vI v11]) [] H79 (by decide) (by kernel_rfl) trivial fun _ _ H82 hb => ?_
    replace hS:=hS.below hb
    clear H79 hb
    apply wl_end rfl
    replace hS : SH M X w [eO 5 (tI .u8) q77 g80] _:=hS.sel [0] rfl
    refine w_reg [] [0,4,5] (fS [0,4,5] [vS s,vL g80 q77,vI (w64 (v11 + 3))]) [] H82 (by kernel_rfl) trivial fun _ _ H84 hb => ?_
    replace hS:=hS.below hb
    clear H82 hb
    obtain rfl:=someE hm
    exact ⟨_,rfl,g80,FrG.keep (ks:=[0,4,5]) H84 (by kernel_rfl),hS⟩
   ·rintro _ _ ⟨s_z14,hz,g109,H,hS⟩
    subst hz
    replace hm:=sumR hm_z14
    refine w_reg [] [0,4,5] (fS [0,4,5] [vS s,vL g109 s_z14.2,vI (w64 (s_z14.1 + 1))]) [] H (by kernel_rfl) trivial fun _ _ H111 hb => ?_
    replace hS:=hS.below hb
    clear H hb
    exact ⟨_,Nat.lt_succ_self _,s_z14.2,w64 (s_z14.1 + 1),g109,hm,FrG.keep (ks:=[0,4,5]) H111 (by kernel_rfl),hS⟩
 ·rintro _ _ ⟨s_z5,hz,H,hS⟩
  subst hz
  replace hm:=sumR hm_z5
  refine s_reg [] [2,3] (fS [2,3] [vN,vI 0]) [] H (by kernel_rfl) trivial fun _ _ H116 hb => ?_
  replace hS:=hS.below hb
  clear H hb
  apply w_ret
  obtain rfl:=someE hm
  exact retR2 H116 rfl rfl rfl ⟨_,rfl,rfl,(hS.sel [] rfl)⟩
theorem answer_unquote_ok  (m : Nat) (s : Str) (r : Str × Int) (hm : answer_unquote m s = some r) : Ret Tryz.prog 65 ⟨[vS s]⟩ (vW [vS r.1,vI r.2]):=retP_of (Tryz.call65 _) (fun w h => answer_unquote_w F0 m   s r hm w h)

theorem answer_read_4_w {b_u0 : Nat} {b_u0_c0 : Nat} {b_u2 : Nat} {g_u2_Texts : Gh} {g_u2_Numbers : Gh} (M : Av) (m : Nat) (u0_c0 : Str) (u2_Err : Int) (u2_Num : Int) (u2_Texts : List Str) (u2_Numbers : List Int) (r : Bool × Str × (List Str)) (hm : answer_read_4 m u0_c0 u2_Err u2_Num u2_Texts u2_Numbers = some r) (w : World) (hS : S0 M [eB b_u0 [.func (.func 58) ⟨[]⟩ ⟨[vP b_u0_c0]⟩],eB b_u0_c0 [vS u0_c0],eB b_u2 [vI u2_Err,vI u2_Num,vL g_u2_Texts u2_Texts,vL g_u2_Numbers u2_Numbers],eO 9 tS u2_Texts g_u2_Texts,eI (tI .i64) u2_Numbers g_u2_Numbers] w) : Calls Tryz.prog 64 ⟨[vP b_u0,vP b_u0_c0,vP b_u2]⟩ w (fun e w' => ∃ v,e = .returned v ∧ ∃ (g901 : Gh),v = vB r.1 ∧ SH M (fpl [eB b_u0 [.func (.func 58) ⟨[]⟩ ⟨[vP b_u0_c0]⟩],eB b_u0_c0 [vS u0_c0],eB b_u2 [vI u2_Err,vI u2_Num,vL g_u2_Texts u2_Texts,vL g_u2_Numbers u2_Numbers],eO 9 tS u2_Texts g_u2_Texts,eI (tI .i64) u2_Numbers g_u2_Numbers]) w [eB b_u0 [.func (.func 58) ⟨[]⟩ ⟨[vP b_u0_c0]⟩],eB b_u0_c0 [vS r.2.1],eB b_u2 [vI u2_Err,vI u2_Num,vL g901 r.2.2,vL g_u2_Numbers u2_Numbers],eO 9 tS r.2.2 g901] w'):=by
 rw [answer_read_4] at hm
 have hS0 : SH M (fpl [eB b_u0 [.func (.func 58) ⟨[]⟩ ⟨[vP b_u0_c0]⟩],eB b_u0_c0 [vS u0_c0],eB b_u2 [vI u2_Err,vI u2_Num,vL g_u2_Texts u2_Texts,vL g_u2_Numbers u2_Numbers],eO 9 tS u2_Texts g_u2_Texts,eI (tI .i64) u2_Numbers g_u2_Numbers]) w [eB b_u0 [.func (.func 58) ⟨[]⟩ ⟨[vP b_u0_c0]⟩],eB b_u0_c0 [vS u0_c0],eB b_u2 [vI u2_Err,vI u2_Num,vL g_u2_Texts u2_Texts,vL g_u2_Numbers u2_Numbers],eO 9 tS u2_Texts g_u2_Texts,eI (tI .i64) u2_Numbers g_u2_Numbers] w:=hS
 generalize hX : fpl [eB b_u0 [.func (.func 58) ⟨[]⟩ ⟨[vP b_u0_c0]⟩],eB b_u0_c0 [vS u0_c0],eB b_u2 [vI u2_Err,vI u2_Num,vL g_u2_Texts u2_Texts,vL g_u2_Numbers u2_Numbers],eO 9 tS u2_Texts g_u2_Texts,eI (tI .i64) u2_Numbers g_u2_Numbers] = X at hS0 ⊢
 clear hS hX
 have hS:=hS0
 clear hS0
 refine calls_entryP Tryz.func64 rfl Tryz.ntmps64 rfl fun _ H => ?_
 refine s_reg [] [0,1,2] (fS [0,1,2] [vP b_u0,vP b_u0_c0,vP b_u2]) [] H (by kernel_rfl) trivial fun _ _ H2 hb => ?_
 replace hS:=hS.below hb
 clear H hb
 apply w_seq
 apply w_seq
 apply wl_start
 refine wl_batch 0 1 [(.func (.func 58) ⟨[]⟩ ⟨[vP b_u0_c0]⟩)] [1,2,6] (fS [1,2,6] [vP b_u0_c0,vP b_u2,.func (.func 58) ⟨[]⟩ ⟨[vP b_u0_c0]⟩]) [rA b_u0 0 (.func (.func 58) ⟨[]⟩ ⟨[vP b_u0_c0]⟩)] H2 (by decide) (by kernel_rfl) ⟨((hS.bk 0 rfl).at1 rfl),trivial⟩ fun _ _ H4 hb => ?_
 replace hS:=hS.below hb
 clear H2 hb
 obtain ⟨y5,hy5,hm⟩:=bindE hm
 have hd:=hS.hand [1] [0,2,3,4] rfl rfl
 refine m_stp [7,1,2] (fS [1,2] [vP b_u0_c0,vP b_u2]) H4 rfl rfl rfl rfl (o_callx H4 rfl rfl (answer_read_1_ok (b_u0:=b_u0_c0) _ _ _ hy5 _ _ hd)) (fun _ => rfl) fun _ _ v H7 hq => ?_
 clear H4 hd
 obtain ⟨rfl,hq⟩:=hq
 replace hS : SH M X w [eB b_u0_c0 [vS y5.2],eB b_u0 [.func (.func 58) ⟨[]⟩ ⟨[vP b_u0_c0]⟩],eB b_u2 [vI u2_Err,vI u2_Num,vL g_u2_Texts u2_Texts,vL g_u2_Numbers u2_Numbers],eO 9 tS u2_Texts g_u2_Texts,eI (tI .i64) u2_Numbers g_u2_Numbers] _:=hS.join [1] [0,2,3,4] rfl rfl hq
 clear hq
 refine wl_batch 2 3 [] [1,2,8] (fS [1,2,8] [vP b_u0_c0,vP b_u2,vB (!y5.1)]) [] H7 (by decide) (by kernel_rfl) trivial fun _ _ H9 hb => ?_
 replace hS:=hS.below hb
 clear H7 hb
 apply wl_end rfl
 refine w_if H9 rfl (fun hc => ?c37) (fun hc => ?_)
 case c37 =>
  replace hm:=bT hc hm
  refine s_reg [] [3] [(3,[],vF)] [] H9 (by kernel_rfl) trivial fun _ _ H11 hb => ?_
  replace hS:=hS.below hb
  clear H9 hb
  apply w_ret
  obtain rfl:=someE hm
  exact retR1 H11 rfl rfl ⟨_,rfl,g_u2_Texts,rfl,(hS.sel [1,0,2,3] rfl)⟩
 replace hm:=bF hc hm
 apply w_skip
 obtain ⟨y12,hy12,hm⟩:=bindE hm
 refine s_reg [(vS y5.2),(vW [vS y12.1,vI y12.2])] [1,2,4,5] (fS [1,2,4,5] [vP b_u0_c0,vP b_u2,vS y12.1,vI y12.2]) [rA b_u0_c0 0 (vS y5.2),rB 65 [vS y5.2] (vW [vS y12.1,vI y12.2])] H9 (by kernel_rfl) ⟨((hS.bk 0 rfl).at1 rfl),((answer_unquote_ok m _ _ hy12).b),trivial⟩ fun _ _ H14 hb => ?_
 replace hS:=hS.below hb
 clear H9 hb
 apply w_seq
 apply wl_start
 refine wl_batch 0 3 [(vL g_u2_Texts u2_Texts)] [1,2,5,15,16] (fS [1,2,5,15,16] [vP b_u0_c0,vP b_u2,vI y12.2,vL g_u2_Texts u2_Texts,vS y12.1]) [rA b_u2 2 (vL g_u2_Texts u2_Texts)] H14 (by decide) (by kernel_rfl) ⟨((hS.bk 2 rfl).at1 rfl),trivial⟩ fun _ _ H16 hb => ?_
 replace hS:=hS.below hb
 clear H14 hb
 have hd:=hS.hand [] [0,1,2,3,4] rfl rfl
 refine m_stp [17,1,2,5,15] (fS [1,2,5,15] [vP b_u0_c0,vP b_u2,vI y12.2,vL g_u2_Texts u2_Texts]) H16 rfl rfl rfl rfl (o_lit (T:=tS) (E:=9) (zv:=vN) [vS y12.1] ([y12.1] : List Str) [gL []] _ H16 hd rfl (by kernel_rfl) (by kernel_rfl) (by kernel_rfl) (by kernel_rfl) (by kernel_rfl) (by kernel_rfl) (by kernel_rfl) rfl (InnL.cons trivial InnL.nil)) (fun _ => rfl) fun _ _ v H20 hq => ?_
 clear H16 hd
 obtain ⟨g17,rfl,hq⟩:=hq
 replace hS : SH M X w [eO 9 tS ([y12.1] : List Str) g17,eB b_u0_c0 [vS y5.2],eB b_u0 [.func (.func 58) ⟨[]⟩ ⟨[vP b_u0_c0]⟩],eB b_u2 [vI u2_Err,vI u2_Num,vL g_u2_Texts u2_Texts,vL g_u2_Numbers u2_Numbers],eO 9 tS u2_Texts g_u2_Texts,eI (tI .i64) u2_Numbers g_u2_Numbers] _:=hS.join [] [0,1,2,3,4] rfl rfl hq
 clear hq
 obtain ⟨ho21,hm⟩:=chkE hm
 obtain ⟨q22,hq22,hm⟩:=letE hm
 have hd:=hS.hand [4,0] [1,2,3,5] rfl rfl
 refine m_stp [18,1,2,5] (fS [1,2,5] [vP b_u0_c0,vP b_u2,vI y12.2]) H20 rfl rfl rfl rfl (o_app2 (T:=tS) (zv:=vN) (g1:=g_u2_Texts) (g2:=g17) (l1:=u2_Texts) (l2:=([y12.1] : List Str)) q22 hq22.symm H20 hd rfl rfl rfl rfl rfl rfl rfl (by kernel_rfl) (by kernel_rfl) rfl rfl ho21) (fun _ => rfl) fun _ _ v H24 hq => ?_
 clear H20 hd
 obtain ⟨g25,rfl,hq⟩:=hq
 replace hS : SH M X w [eO 9 tS q22 g25,eO 9 tS ([y12.1] : List Str) g17,eB b_u0_c0 [vS y5.2],eB b_u0 [.func (.func 58) ⟨[]⟩ ⟨[vP b_u0_c0]⟩],eB b_u2 [vI u2_Err,vI u2_Num,vL g_u2_Texts u2_Texts,vL g_u2_Numbers u2_Numbers],eI (tI .i64) u2_Numbers g_u2_Numbers] _:=hS.join [4,0] [1,2,3,5] rfl rfl hq
 clear hq
 refine wl_batch 5 6 [] [1,5,18,19] (fS [1,5,18,19] [vP b_u0_c0,vI y12.2,vL g25 q22,vA b_u2 2]) [] H24 (by decide) (by kernel_rfl) trivial fun _ _ H27 hb => ?_
 replace hS:=hS.below hb
 clear H24 hb
 have hd:=hS.hand [4] [0,1,2,3,5] rfl rfl
 refine m_stp0 [1,5] (fS [1,5] [vP b_u0_c0,vI y12.2]) H27 rfl rfl rfl (o_store [vI u2_Err,vI u2_Num,vL g25 q22,vL g_u2_Numbers u2_Numbers] H27 hd rfl rfl (by kernel_rfl) rfl rfl rfl) rfl fun _ _ H29 hq => ?_
 clear H27 hd
 obtain ⟨_,hq⟩:=hq
 replace hS : SH M X w [eB b_u2 [vI u2_Err,vI u2_Num,vL g25 q22,vL g_u2_Numbers u2_Numbers],eO 9 tS q22 g25,eO 9 tS ([y12.1] : List Str) g17,eB b_u0_c0 [vS y5.2],eB b_u0 [.func (.func 58) ⟨[]⟩ ⟨[vP b_u0_c0]⟩],eI (tI .i64) u2_Numbers g_u2_Numbers] _:=hS.join [4] [0,1,2,3,5] rfl rfl hq
 clear hq
 apply wl_end rfl
 replace hS : SH M X w [eB b_u2 [vI u2_Err,vI u2_Num,vL g25 q22,vL g_u2_Numbers u2_Numbers],eO 9 tS q22 g25,eB b_u0_c0 [vS y5.2],eB b_u0 [.func (.func 58) ⟨[]⟩ ⟨[vP b_u0_c0]⟩],eI (tI .i64) u2_Numbers g_u2_Numbers] _:=hS.sel [0,1,3,4,5] rfl
 apply w_seq
 apply wl_start
 obtain ⟨ho30,hm⟩:=chkE hm
 refine wl_batch 0 3 [(vS y5.2)] [1,5,22] (fS [1,5,22] [vP b_u0_c0,vI y12.2,vS (sub y5.2 y12.2 (ln y5.2))]) [rA b_u0_c0 0 (vS y5.2),fun _ => 0 ≤ y12.2 ∧ y12.2 ≤ ln y5.2] H29 (by decide) (by kernel_rfl) ⟨((hS.bk 2 rfl).at1 rfl),ho30,trivial⟩ fun _ _ H32 hb => ?_
 replace hS:=hS.below hb
 clear H29 hb
 have hd:=hS.hand [2] [0,1,3,4] rfl rfl
 refine m_stp0 [5] [(5,[],vI y12.2)] H32 rfl rfl rfl (o_store [vS (sub y5.2 y12.2 (ln y5.2))] H32 hd rfl rfl (by kernel_rfl) rfl rfl rfl) rfl fun _ _ H34 hq => ?_
 clear H32 hd
 obtain ⟨_,hq⟩:=hq
 replace hS : SH M X w [eB b_u0_c0 [vS (sub y5.2 y12.2 (ln y5.2))],eB b_u2 [vI u2_Err,vI u2_Num,vL g25 q22,vL g_u2_Numbers u2_Numbers],eO 9 tS q22 g25,eB b_u0 [.func (.func 58) ⟨[]⟩ ⟨[vP b_u0_c0]⟩],eI (tI .i64) u2_Numbers g_u2_Numbers] _:=hS.join [2] [0,1,3,4] rfl rfl hq
 clear hq
 apply wl_end rfl
 refine s_reg [] [3] [(3,[],vB (decide (0 < y12.2)))] [] H34 (by kernel_rfl) trivial fun _ _ H36 hb => ?_
 replace hS:=hS.below hb
 clear H34 hb
 apply w_ret
 obtain rfl:=someE hm
 exact retR1 H36 rfl rfl ⟨_,rfl,g25,rfl,(hS.sel [3,0,1,2] rfl)⟩
theorem answer_read_4_ok {b_u0 : Nat} {b_u0_c0 : Nat} {b_u2 : Nat} {g_u2_Texts : Gh} {g_u2_Numbers : Gh} (m : Nat) (u0_c0 : Str) (u2_Err : Int) (u2_Num : Int) (u2_Texts : List Str) (u2_Numbers : List Int) (r : Bool × Str × (List Str)) (hm : answer_read_4 m u0_c0 u2_Err u2_Num u2_Texts u2_Numbers = some r) (M : Av) (w : World) (hS : S0 M [eB b_u0 [.func (.func 58) ⟨[]⟩ ⟨[vP b_u0_c0]⟩],eB b_u0_c0 [vS u0_c0],eB b_u2 [vI u2_Err,vI u2_Num,vL g_u2_Texts u2_Texts,vL g_u2_Numbers u2_Numbers],eO 9 tS u2_Texts g_u2_Texts,eI (tI .i64) u2_Numbers g_u2_Numbers] w) : DoesX Tryz.prog 64 ⟨[vP b_u0,vP b_u0_c0,vP b_u2]⟩ w (fun v w' => ∃ (g901 : Gh),v = vB r.1 ∧ SH M (fpl [eB b_u0 [.func (.func 58) ⟨[]⟩ ⟨[vP b_u0_c0]⟩],eB b_u0_c0 [vS u0_c0],eB b_u2 [vI u2_Err,vI u2_Num,vL g_u2_Texts u2_Texts,vL g_u2_Numbers u2_Numbers],eO 9 tS u2_Texts g_u2_Texts,eI (tI .i64) u2_Numbers g_u2_Numbers]) w [eB b_u0 [.func (.func 58) ⟨[]⟩ ⟨[vP b_u0_c0]⟩],eB b_u0_c0 [vS r.2.1],eB b_u2 [vI u2_Err,vI u2_Num,vL g901 r.2.2,vL g_u2_Numbers u2_Numbers],eO 9 tS r.2.2 g901] w'):=⟨Tryz.call64 _,answer_read_4_w M m   u0_c0 u2_Err u2_Num u2_Texts u2_Numbers r hm w hS⟩

theorem answer_read_3_w {b_one_c0 : Nat} {b_one_c0_c0 : Nat} {b_one_c2 : Nat} {g_one_c2_Texts : Gh} {g_one_c2_Numbers : Gh} (M : Av) (m : Nat) (one_c0_c0 : Str) (one_c2_Err : Int) (one_c2_Num : Int) (one_c2_Texts : List Str) (one_c2_Numbers : List Int) (r : Bool × Str × (List Str)) (hm : answer_read_3 m one_c0_c0 one_c2_Err one_c2_Num one_c2_Texts one_c2_Numbers = some r) (w : World) (hS : S0 M [eB b_one_c0 [.func (.func 58) ⟨[]⟩ ⟨[vP b_one_c0_c0]⟩],eB b_one_c0_c0 [vS one_c0_c0],eB b_one_c2 [vI one_c2_Err,vI one_c2_Num,vL g_one_c2_Texts one_c2_Texts,vL g_one_c2_Numbers one_c2_Numbers],eO 9 tS one_c2_Texts g_one_c2_Texts,eI (tI .i64) one_c2_Numbers g_one_c2_Numbers] w) : Calls Tryz.prog 63 ⟨[.func (.func 64) ⟨[]⟩ ⟨[vP b_one_c0,vP b_one_c0_c0,vP b_one_c2]⟩,vP b_one_c0]⟩ w (fun e w' => ∃ v,e = .returned v ∧ ∃ (g901 : Gh),v = vB r.1 ∧ SH M (fpl [eB b_one_c0 [.func (.func 58) ⟨[]⟩ ⟨[vP b_one_c0_c0]⟩],eB b_one_c0_c0 [vS one_c0_c0],eB b_one_c2 [vI one_c2_Err,vI one_c2_Num,vL g_one_c2_Texts one_c2_Texts,vL g_one_c2_Numbers one_c2_Numbers],eO 9 tS one_c2_Texts g_one_c2_Texts,eI (tI .i64) one_c2_Numbers g_one_c2_Numbers]) w [eB b_one_c0 [.func (.func 58) ⟨[]⟩ ⟨[vP b_one_c0_c0]⟩],eB b_one_c0_c0 [vS r.2.1],eB b_one_c2 [vI one_c2_Err,vI one_c2_Num,vL g901 r.2.2,vL g_one_c2_Numbers one_c2_Numbers],eO 9 tS r.2.2 g901] w'):=by
 rw [answer_read_3] at hm
 have hS0 : SH M (fpl [eB b_one_c0 [.func (.func 58) ⟨[]⟩ ⟨[vP b_one_c0_c0]⟩],eB b_one_c0_c0 [vS one_c0_c0],eB b_one_c2 [vI one_c2_Err,vI one_c2_Num,vL g_one_c2_Texts one_c2_Texts,vL g_one_c2_Numbers one_c2_Numbers],eO 9 tS one_c2_Texts g_one_c2_Texts,eI (tI .i64) one_c2_Numbers g_one_c2_Numbers]) w [eB b_one_c0 [.func (.func 58) ⟨[]⟩ ⟨[vP b_one_c0_c0]⟩],eB b_one_c0_c0 [vS one_c0_c0],eB b_one_c2 [vI one_c2_Err,vI one_c2_Num,vL g_one_c2_Texts one_c2_Texts,vL g_one_c2_Numbers one_c2_Numbers],eO 9 tS one_c2_Texts g_one_c2_Texts,eI (tI .i64) one_c2_Numbers g_one_c2_Numbers] w:=hS
 generalize hX : fpl [eB b_one_c0 [.func (.func 58) ⟨[]⟩ ⟨[vP b_one_c0_c0]⟩],eB b_one_c0_c0 [vS one_c0_c0],eB b_one_c2 [vI one_c2_Err,vI one_c2_Num,vL g_one_c2_Texts one_c2_Texts,vL g_one_c2_Numbers one_c2_Numbers],eO 9 tS one_c2_Texts g_one_c2_Texts,eI (tI .i64) one_c2_Numbers g_one_c2_Numbers] = X at hS0 ⊢
 clear hS hX
 have hS:=hS0
 clear hS0
 refine calls_entryP Tryz.func63 rfl Tryz.ntmps63 rfl fun _ H => ?_
 refine s_reg [] [0,1] (fS [0,1] [.func (.func 64) ⟨[]⟩ ⟨[vP b_one_c0,vP b_one_c0_c0,vP b_one_c2]⟩,vP b_one_c0]) [] H (by kernel_rfl) trivial fun _ _ H2 hb => ?_
 replace hS:=hS.below hb
 clear H hb
 apply w_seq
 apply w_seq
 apply wl_start
 refine wl_batch 0 1 [(.func (.func 58) ⟨[]⟩ ⟨[vP b_one_c0_c0]⟩)] [0,1,5] (fS [0,1,5] [.func (.func 64) ⟨[]⟩ ⟨[vP b_one_c0,vP b_one_c0_c0,vP b_one_c2]⟩,vP b_one_c0,.func (.func 58) ⟨[]⟩ ⟨[vP b_one_c0_c0]⟩]) [rA b_one_c0 0 (.func (.func 58) ⟨[]⟩ ⟨[vP b_one_c0_c0]⟩)] H2 (by decide) (by kernel_rfl) ⟨((hS.bk 0 rfl).at1 rfl),trivial⟩ fun _ _ H4 hb => ?_
 replace hS:=hS.below hb
 clear H2 hb
 obtain ⟨y5,hy5,hm⟩:=bindE hm
 have hd:=hS.hand [1] [0,2,3,4] rfl rfl
 refine m_stp [6,0,1] (fS [0,1] [.func (.func 64) ⟨[]⟩ ⟨[vP b_one_c0,vP b_one_c0_c0,vP b_one_c2]⟩,vP b_one_c0]) H4 rfl rfl rfl rfl (o_callx H4 rfl rfl (answer_read_1_ok (b_u0:=b_one_c0_c0) _ _ _ hy5 _ _ hd)) (fun _ => rfl) fun _ _ v H7 hq => ?_
 clear H4 hd
 obtain ⟨rfl,hq⟩:=hq
 replace hS : SH M X w [eB b_one_c0_c0 [vS y5.2],eB b_one_c0 [.func (.func 58) ⟨[]⟩ ⟨[vP b_one_c0_c0]⟩],eB b_one_c2 [vI one_c2_Err,vI one_c2_Num,vL g_one_c2_Texts one_c2_Texts,vL g_one_c2_Numbers one_c2_Numbers],eO 9 tS one_c2_Texts g_one_c2_Texts,eI (tI .i64) one_c2_Numbers g_one_c2_Numbers] _:=hS.join [1] [0,2,3,4] rfl rfl hq
 clear hq
 refine wl_batch 2 3 [] [0,1,7] (fS [0,1,7] [.func (.func 64) ⟨[]⟩ ⟨[vP b_one_c0,vP b_one_c0_c0,vP b_one_c2]⟩,vP b_one_c0,vB (!y5.1)]) [] H7 (by decide) (by kernel_rfl) trivial fun _ _ H9 hb => ?_
 replace hS:=hS.below hb
 clear H7 hb
 apply wl_end rfl
 refine w_if H9 rfl (fun hc => ?c78) (fun hc => ?_)
 case c78 =>
  replace hm:=bT hc hm
  refine s_reg [] [3] [(3,[],vF)] [] H9 (by kernel_rfl) trivial fun _ _ H11 hb => ?_
  replace hS:=hS.below hb
  clear H9 hb
  apply w_ret
  obtain rfl:=someE hm
  exact retR1 H11 rfl rfl ⟨_,rfl,g_one_c2_Texts,rfl,(hS.sel [1,0,2,3] rfl)⟩
 replace hm:=bF hc hm
 apply w_skip
 obtain ⟨z12,hz,hm_z12⟩:=bindE hm
 refine w_cut (fun a' w' => ∃ s_z12 : Str × (List Str),z12 = Sum.inr s_z12 ∧ ∃ (g74 : Gh),Fr 23 [] a' ∧ SH M X w [eB b_one_c0_c0 [vS s_z12.1],eB b_one_c0 [.func (.func 58) ⟨[]⟩ ⟨[vP b_one_c0_c0]⟩],eB b_one_c2 [vI one_c2_Err,vI one_c2_Num,vL g74 s_z12.2,vL g_one_c2_Numbers one_c2_Numbers],eO 9 tS s_z12.2 g74,eI (tI .i64) one_c2_Numbers g_one_c2_Numbers] w') ?_ ?_
 ·replace hm:=hz
  refine s_reg [] [0,1,4] (fS [0,1,4] [.func (.func 64) ⟨[]⟩ ⟨[vP b_one_c0,vP b_one_c0_c0,vP b_one_c2]⟩,vP b_one_c0,vT]) [] H9 (by kernel_rfl) trivial fun _ _ H14 hb => ?_
  replace hS:=hS.below hb
  clear H9 hb
  apply w_block
  refine w_loop (fun kk a' w' => ∃ (v15 : Bool) (v16 : Str) (v17 : List Str) (g18 : Gh),answer_read_3_L1 m one_c2_Err one_c2_Num one_c2_Numbers kk v15 v16 v17 = some _ ∧ Fr 23 (fS [0,1,4] [.func (.func 64) ⟨[]⟩ ⟨[vP b_one_c0,vP b_one_c0_c0,vP b_one_c2]⟩,vP b_one_c0,vB v15]) a' ∧ SH M X w [eB b_one_c0_c0 [vS v16],eB b_one_c0 [.func (.func 58) ⟨[]⟩ ⟨[vP b_one_c0_c0]⟩],eB b_one_c2 [vI one_c2_Err,vI one_c2_Num,vL g18 v17,vL g_one_c2_Numbers one_c2_Numbers],eO 9 tS v17 g18,eI (tI .i64) one_c2_Numbers g_one_c2_Numbers] w') ⟨_,true,y5.2,one_c2_Texts,g_one_c2_Texts,hm,FrG.keep (ks:=[0,1,4]) H14 (by kernel_rfl),hS⟩ ?_
  clear hm H14 hS
  rintro kk _ _ ⟨v15,v16,v17,g18,hm,H,hS⟩
  cases kk with
  | zero => exact noneE hm
  | succ kk =>
   rw [answer_read_3_L1] at hm
   apply w_seq
   apply w_seq
   apply wl_start
   refine wl_batch 0 1 [(.func (.func 58) ⟨[]⟩ ⟨[vP b_one_c0_c0]⟩)] [0,1,4,8] (fS [0,1,4,8] [.func (.func 64) ⟨[]⟩ ⟨[vP b_one_c0,vP b_one_c0_c0,vP b_one_c2]⟩,vP b_one_c0,vB v15,.func (.func 58) ⟨[]⟩ ⟨[vP b_one_c0_c0]⟩]) [rA b_one_c0 0 (.func (.func 58) ⟨[]⟩ ⟨[vP b_one_c0_c0]⟩)] H (by decide) (by kernel_rfl) ⟨((hS.bk 1 rfl).at1 rfl),trivial⟩ fun _ _ H20 hb => ?_
   replace hS:=hS.below hb
   clear H hb
   obtain ⟨y21,hy21,hm⟩:=bindE hm
   have hd:=hS.hand [0] [1,2,3,4] rfl rfl
   refine m_stp [9,0,1,4] (fS [0,1,4] [.func (.func 64) ⟨[]⟩ ⟨[vP b_one_c0,vP b_one_c0_c0,vP b_one_c2]⟩,vP b_one_c0,vB v15]) H20 rfl rfl rfl rfl (o_callx H20 rfl rfl (answer_read_1_ok (b_u0:=b_one_c0_c0) _ _ _ hy21 _ _ hd)) (fun _ => rfl) fun _ _ v H23 hq => ?_
   clear H20 hd
   obtain ⟨rfl,hq⟩:=hq
   replace hS : SH M X w [eB b_one_c0_c0 [vS y21.2],eB b_one_c0 [.func (.func 58) ⟨[]⟩ ⟨[vP b_one_c0_c0]⟩],eB b_one_c2 [vI one_c2_Err,vI one_c2_Num,vL g18 v17,vL g_one_c2_Numbers one_c2_Numbers],eO 9 tS v17 g18,eI (tI .i64) one_c2_Numbers g_one_c2_Numbers] _:=hS.join [0] [1,2,3,4] rfl rfl hq
   clear hq
   refine wl_batch 2 3 [] [0,1,4,10] (fS [0,1,4,10] [.func (.func 64) ⟨[]⟩ ⟨[vP b_one_c0,vP b_one_c0_c0,vP b_one_c2]⟩,vP b_one_c0,vB v15,vB (!y21.1)]) [] H23 (by decide) (by kernel_rfl) trivial fun _ _ H25 hb => ?_
   replace hS:=hS.below hb
   clear H23 hb
   apply wl_end rfl
   refine w_if H25 rfl (fun hc => ?_) (fun hc => ?c72)
   case c72 =>
    replace hm:=bF hc hm
    apply w_exit rfl
    obtain rfl:=someE hm
    exact ⟨_,rfl,g18,FrG.keep (ks:=[]) H25 (by kernel_rfl),hS⟩
   replace hm:=bT hc hm
   apply w_skip
   apply w_seq
   apply w_block
   obtain ⟨z26,hz,hm⟩:=bindE hm
   refine w_cut (fun a' w' => ∃ (g64 : Gh),Fr 23 (fS [0,1,22] [.func (.func 64) ⟨[]⟩ ⟨[vP b_one_c0,vP b_one_c0_c0,vP b_one_c2]⟩,vP b_one_c0,vB z26.1]) a' ∧ SH M X w [eO 9 tS z26.2.2 g64,eB b_one_c0_c0 [vS z26.2.1],eB b_one_c0 [.func (.func 58) ⟨[]⟩ ⟨[vP b_one_c0_c0]⟩],eB b_one_c2 [vI one_c2_Err,vI one_c2_Num,vL g64 z26.2.2,vL g_one_c2_Numbers one_c2_Numbers],eI (tI .i64) one_c2_Numbers g_one_c2_Numbers] w') ?_ ?_
   ·replace hm:=hz
    apply wl_start
    obtain ⟨x27,hx27,hm⟩:=letE hm
    refine wl_batch 0 3 [] [0,1,13] (fS [0,1,13] [.func (.func 64) ⟨[]⟩ ⟨[vP b_one_c0,vP b_one_c0_c0,vP b_one_c2]⟩,vP b_one_c0,vB x27]) [] H25 (by decide) (by subst hx27; kernel_rfl) trivial fun _ _ H29 hb => ?_
    replace hS:=hS.below hb
    clear H25 hb
    cases x27
    case false =>
     replace hm:=bF rfl hm
     refine m_skipG 13 [14,0,1,13] (fS [14,0,1,13] [undef,.func (.func 64) ⟨[]⟩ ⟨[vP b_one_c0,vP b_one_c0_c0,vP b_one_c2]⟩,vP b_one_c0,vF]) H29 rfl rfl rfl rfl rfl rfl fun _ H52 => ?_
     clear H29
     refine m_skipG 13 [15,0,1,13] (fS [15,0,1,13] [undef,.func (.func 64) ⟨[]⟩ ⟨[vP b_one_c0,vP b_one_c0_c0,vP b_one_c2]⟩,vP b_one_c0,vF]) H52 rfl rfl rfl rfl rfl rfl fun _ H53 => ?_
     clear H52
     refine m_skipG 13 [16,0,1,13] (fS [16,0,1,13] [undef,.func (.func 64) ⟨[]⟩ ⟨[vP b_one_c0,vP b_one_c0_c0,vP b_one_c2]⟩,vP b_one_c0,vF]) H53 rfl rfl rfl rfl rfl rfl fun _ H54 => ?_
     clear H53
     refine wl_batchM 6 9 [] [(0,0),(1,0),(18,0),(19,1)] (fS [0,1,18,19] [.func (.func 64) ⟨[]⟩ ⟨[vP b_one_c0,vP b_one_c0_c0,vP b_one_c2]⟩,vP b_one_c0,vF,.func (.func 64) ⟨[]⟩ ⟨[vP b_one_c0,vP b_one_c0_c0,vP b_one_c2]⟩]) [] H54 (by decide) (by kernel_rfl) trivial fun _ _ H56 hb => ?_
     replace hS:=hS.below hb
     clear H54 hb
     obtain ⟨y57,hy57,hm⟩:=bindE hm
     have hd:=hS.hand [1,0,2,3,4] [4] rfl rfl
     refine m_stpG 18 [20,0,1,18] (fS [0,1,18] [.func (.func 64) ⟨[]⟩ ⟨[vP b_one_c0,vP b_one_c0_c0,vP b_one_c2]⟩,vP b_one_c0,vF]) H56 rfl rfl rfl rfl (o_callx H56 rfl rfl (answer_read_4_ok (b_u0:=b_one_c0) (b_u0_c0:=b_one_c0_c0) (b_u2:=b_one_c2) (g_u2_Texts:=g18) (g_u2_Numbers:=g_one_c2_Numbers) m _ _ _ _ _ _ hy57 _ _ hd)) (fun _ => rfl) fun _ _ v H61 hq => ?_
     clear H56 hd
     obtain ⟨g58,rfl,hq⟩:=hq
     replace hS : SH M X w [eB b_one_c0 [.func (.func 58) ⟨[]⟩ ⟨[vP b_one_c0_c0]⟩],eB b_one_c0_c0 [vS y57.2.1],eB b_one_c2 [vI one_c2_Err,vI one_c2_Num,vL g58 y57.2.2,vL g_one_c2_Numbers one_c2_Numbers],eO 9 tS y57.2.2 g58,eI (tI .i64) one_c2_Numbers g_one_c2_Numbers] _:=hS.join [1,0,2,3,4] [4] rfl rfl hq
     clear hq
     refine wl_batch 10 12 [] [0,1,22] (fS [0,1,22] [.func (.func 64) ⟨[]⟩ ⟨[vP b_one_c0,vP b_one_c0_c0,vP b_one_c2]⟩,vP b_one_c0,vB (!y57.1)]) [] H61 (by decide) (by kernel_rfl) trivial fun _ _ H63 hb => ?_
     replace hS:=hS.below hb
     clear H61 hb
     apply wl_end rfl
     obtain rfl:=someE hm
     replace hS : SH M X w [eO 9 tS y57.2.2 g58,eB b_one_c0_c0 [vS y57.2.1],eB b_one_c0 [.func (.func 58) ⟨[]⟩ ⟨[vP b_one_c0_c0]⟩],eB b_one_c2 [vI one_c2_Err,vI one_c2_Num,vL g58 y57.2.2,vL g_one_c2_Numbers one_c2_Numbers],eI (tI .i64) one_c2_Numbers g_one_c2_Numbers] _:=hS.sel [3,1,0,2,4] rfl
     exact ⟨g58,FrG.keep (ks:=[0,1,22]) H63 (by kernel_rfl),hS⟩
    replace hm:=bT rfl hm
    refine wl_batchM 3 4 [(.func (.func 58) ⟨[]⟩ ⟨[vP b_one_c0_c0]⟩)] [(0,0),(1,0),(13,0),(14,1)] (fS [0,1,13,14] [.func (.func 64) ⟨[]⟩ ⟨[vP b_one_c0,vP b_one_c0_c0,vP b_one_c2]⟩,vP b_one_c0,vT,.func (.func 58) ⟨[]⟩ ⟨[vP b_one_c0_c0]⟩]) [fun wz => (true = true ∧ True → V.at1 ⟨b_one_c0,0,none⟩ (.func (.func 58) ⟨[]⟩ ⟨[vP b_one_c0_c0]⟩) wz)] H29 (by decide) (by kernel_rfl) ⟨fun hg => (hS.bk 1 rfl).at1 rfl,trivial⟩ fun _ _ H31 hb => ?_
    replace hS:=hS.below hb
    clear H29 hb
    obtain ⟨y32,hy32,hm⟩:=bindE hm
    have hd:=hS.hand [0] [1,2,3,4] rfl rfl
    refine m_stpG 13 [15,0,1,13] (fS [0,1,13] [.func (.func 64) ⟨[]⟩ ⟨[vP b_one_c0,vP b_one_c0_c0,vP b_one_c2]⟩,vP b_one_c0,vT]) H31 rfl rfl rfl rfl (o_callx H31 rfl rfl (answer_read_1_ok (b_u0:=b_one_c0_c0) _ _ _ hy32 _ _ hd)) (fun _ => rfl) fun _ _ v H34 hq => ?_
    clear H31 hd
    obtain ⟨rfl,hq⟩:=hq
    replace hS : SH M X w [eB b_one_c0_c0 [vS y32.2],eB b_one_c0 [.func (.func 58) ⟨[]⟩ ⟨[vP b_one_c0_c0]⟩],eB b_one_c2 [vI one_c2_Err,vI one_c2_Num,vL g18 v17,vL g_one_c2_Numbers one_c2_Numbers],eO 9 tS v17 g18,eI (tI .i64) one_c2_Numbers g_one_c2_Numbers] _:=hS.join [0] [1,2,3,4] rfl rfl hq
    clear hq
    obtain ⟨x35,hx35,hm⟩:=letE hm
    refine wl_batch 5 8 [] [0,1,18] (fS [0,1,18] [.func (.func 64) ⟨[]⟩ ⟨[vP b_one_c0,vP b_one_c0_c0,vP b_one_c2]⟩,vP b_one_c0,vB x35]) [] H34 (by decide) (by subst hx35; kernel_rfl) trivial fun _ _ H37 hb => ?_
    replace hS:=hS.below hb
    clear H34 hb
    cases x35
    case true =>
     replace hm:=bT rfl hm
     refine m_skipG 18 [19,0,1,18] (fS [19,0,1,18] [undef,.func (.func 64) ⟨[]⟩ ⟨[vP b_one_c0,vP b_one_c0_c0,vP b_one_c2]⟩,vP b_one_c0,vT]) H37 rfl rfl rfl rfl rfl rfl fun _ H38 => ?_
     clear H37
     refine m_skipG 18 [20,0,1,18] (fS [20,0,1,18] [undef,.func (.func 64) ⟨[]⟩ ⟨[vP b_one_c0,vP b_one_c0_c0,vP b_one_c2]⟩,vP b_one_c0,vT]) H38 rfl rfl rfl rfl rfl rfl fun _ H39 => ?_
     clear H38
     refine m_skipG 18 [21,0,1,18] (fS [21,0,1,18] [undef,.func (.func 64) ⟨[]⟩ ⟨[vP b_one_c0,vP b_one_c0_c0,vP b_one_c2]⟩,vP b_one_c0,vT]) H39 rfl rfl rfl rfl rfl rfl fun _ H40 => ?_
     clear H39
     refine wl_batch 11 12 [] [0,1,22] (fS [0,1,22] [.func (.func 64) ⟨[]⟩ ⟨[vP b_one_c0,vP b_one_c0_c0,vP b_one_c2]⟩,vP b_one_c0,vT]) [] H40 (by decide) (by kernel_rfl) trivial fun _ _ H42 hb => ?_
     replace hS:=hS.below hb
     clear H40 hb
     apply wl_end rfl
     obtain rfl:=someE hm
     replace hS : SH M X w [eO 9 tS v17 g18,eB b_one_c0_c0 [vS y32.2],eB b_one_c0 [.func (.func 58) ⟨[]⟩ ⟨[vP b_one_c0_c0]⟩],eB b_one_c2 [vI one_c2_Err,vI one_c2_Num,vL g18 v17,vL g_one_c2_Numbers one_c2_Numbers],eI (tI .i64) one_c2_Numbers g_one_c2_Numbers] _:=hS.sel [3,0,1,2,4] rfl
     exact ⟨g18,FrG.keep (ks:=[0,1,22]) H42 (by kernel_rfl),hS⟩
    replace hm:=bF rfl hm
    refine wl_batchM 8 9 [] [(0,0),(1,0),(18,0),(19,1)] (fS [0,1,18,19] [.func (.func 64) ⟨[]⟩ ⟨[vP b_one_c0,vP b_one_c0_c0,vP b_one_c2]⟩,vP b_one_c0,vF,.func (.func 64) ⟨[]⟩ ⟨[vP b_one_c0,vP b_one_c0_c0,vP b_one_c2]⟩]) [] H37 (by decide) (by kernel_rfl) trivial fun _ _ H44 hb => ?_
    replace hS:=hS.below hb
    clear H37 hb
    obtain ⟨y45,hy45,hm⟩:=bindE hm
    have hd:=hS.hand [1,0,2,3,4] [4] rfl rfl
    refine m_stpG 18 [20,0,1,18] (fS [0,1,18] [.func (.func 64) ⟨[]⟩ ⟨[vP b_one_c0,vP b_one_c0_c0,vP b_one_c2]⟩,vP b_one_c0,vF]) H44 rfl rfl rfl rfl (o_callx H44 rfl rfl (answer_read_4_ok (b_u0:=b_one_c0) (b_u0_c0:=b_one_c0_c0) (b_u2:=b_one_c2) (g_u2_Texts:=g18) (g_u2_Numbers:=g_one_c2_Numbers) m _ _ _ _ _ _ hy45 _ _ hd)) (fun _ => rfl) fun _ _ v H49 hq => ?_
    clear H44 hd
    obtain ⟨g46,rfl,hq⟩:=hq
    replace hS : SH M X w [eB b_one_c0 [.func (.func 58) ⟨[]⟩ ⟨[vP b_one_c0_c0]⟩],eB b_one_c0_c0 [vS y45.2.1],eB b_one_c2 [vI one_c2_Err,vI one_c2_Num,vL g46 y45.2.2,vL g_one_c2_Numbers one_c2_Numbers],eO 9 tS y45.2.2 g46,eI (tI .i64) one_c2_Numbers g_one_c2_Numbers] _:=hS.join [1,0,2,3,4] [4] rfl rfl hq
    clear hq
    refine wl_batch 10 12 [] [0,1,22] (fS [0,1,22] [.func (.func 64) ⟨[]⟩ ⟨[vP b_one_c0,vP b_one_c0_c0,vP b_one_c2]⟩,vP b_one_c0,vB (!y45.1)]) [] H49 (by decide) (by kernel_rfl) trivial fun _ _ H51 hb => ?_
    replace hS:=hS.below hb
    clear H49 hb
    apply wl_end rfl
    obtain rfl:=someE hm
    replace hS : SH M X w [eO 9 tS y45.2.2 g46,eB b_one_c0_c0 [vS y45.2.1],eB b_one_c0 [.func (.func 58) ⟨[]⟩ ⟨[vP b_one_c0_c0]⟩],eB b_one_c2 [vI one_c2_Err,vI one_c2_Num,vL g46 y45.2.2,vL g_one_c2_Numbers one_c2_Numbers],eI (tI .i64) one_c2_Numbers g_one_c2_Numbers] _:=hS.sel [3,1,0,2,4] rfl
    exact ⟨g46,FrG.keep (ks:=[0,1,22]) H51 (by kernel_rfl),hS⟩
   ·rintro _ _ ⟨g64,H,hS⟩
    refine w_if H rfl (fun hc => ?_) (fun hc => ?c70)
    case c70 =>
     replace hm:=bF hc hm
     apply w_skip
     refine w_reg [] [0,1,4] (fS [0,1,4] [.func (.func 64) ⟨[]⟩ ⟨[vP b_one_c0,vP b_one_c0_c0,vP b_one_c2]⟩,vP b_one_c0,vF]) [] H (by kernel_rfl) trivial fun _ _ H69 hb => ?_
     replace hS:=hS.below hb
     clear H hb
     replace hS : SH M X w [eB b_one_c0_c0 [vS z26.2.1],eB b_one_c0 [.func (.func 58) ⟨[]⟩ ⟨[vP b_one_c0_c0]⟩],eB b_one_c2 [vI one_c2_Err,vI one_c2_Num,vL g64 z26.2.2,vL g_one_c2_Numbers one_c2_Numbers],eO 9 tS z26.2.2 g64,eI (tI .i64) one_c2_Numbers g_one_c2_Numbers] _:=hS.sel [1,2,3,0,4] rfl
     exact ⟨_,Nat.lt_succ_self _,false,z26.2.1,z26.2.2,g64,hm,FrG.keep (ks:=[0,1,4]) H69 (by kernel_rfl),hS⟩
    replace hm:=bT hc hm
    refine s_reg [] [3] [(3,[],vF)] [] H (by kernel_rfl) trivial fun _ _ H67 hb => ?_
    replace hS:=hS.below hb
    clear H hb
    apply w_ret
    obtain rfl:=someE hm
    have hm:=hm_z12
    obtain rfl:=someE hm
    exact retR1 H67 rfl rfl ⟨_,rfl,g64,rfl,(hS.sel [2,1,3,0] rfl)⟩
 ·rintro _ _ ⟨s_z12,hz,g74,H,hS⟩
  subst hz
  replace hm:=sumR hm_z12
  refine s_reg [] [3] [(3,[],vT)] [] H (by kernel_rfl) trivial fun _ _ H76 hb => ?_
  replace hS:=hS.below hb
  clear H hb
  apply w_ret
  obtain rfl:=someE hm
  exact retR1 H76 rfl rfl ⟨_,rfl,g74,rfl,(hS.sel [1,0,2,3] rfl)⟩
theorem answer_read_3_ok {b_one_c0 : Nat} {b_one_c0_c0 : Nat} {b_one_c2 : Nat} {g_one_c2_Texts : Gh} {g_one_c2_Numbers : Gh} (m : Nat) (one_c0_c0 : Str) (one_c2_Err : Int) (one_c2_Num : Int) (one_c2_Texts : List Str) (one_c2_Numbers : List Int) (r : Bool × Str × (List Str)) (hm : answer_read_3 m one_c0_c0 one_c2_Err one_c2_Num one_c2_Texts one_c2_Numbers = some r) (M : Av) (w : World) (hS : S0 M [eB b_one_c0 [.func (.func 58) ⟨[]⟩ ⟨[vP b_one_c0_c0]⟩],eB b_one_c0_c0 [vS one_c0_c0],eB b_one_c2 [vI one_c2_Err,vI one_c2_Num,vL g_one_c2_Texts one_c2_Texts,vL g_one_c2_Numbers one_c2_Numbers],eO 9 tS one_c2_Texts g_one_c2_Texts,eI (tI .i64) one_c2_Numbers g_one_c2_Numbers] w) : DoesX Tryz.prog 63 ⟨[.func (.func 64) ⟨[]⟩ ⟨[vP b_one_c0,vP b_one_c0_c0,vP b_one_c2]⟩,vP b_one_c0]⟩ w (fun v w' => ∃ (g901 : Gh),v = vB r.1 ∧ SH M (fpl [eB b_one_c0 [.func (.func 58) ⟨[]⟩ ⟨[vP b_one_c0_c0]⟩],eB b_one_c0_c0 [vS one_c0_c0],eB b_one_c2 [vI one_c2_Err,vI one_c2_Num,vL g_one_c2_Texts one_c2_Texts,vL g_one_c2_Numbers one_c2_Numbers],eO 9 tS one_c2_Texts g_one_c2_Texts,eI (tI .i64) one_c2_Numbers g_one_c2_Numbers]) w [eB b_one_c0 [.func (.func 58) ⟨[]⟩ ⟨[vP b_one_c0_c0]⟩],eB b_one_c0_c0 [vS r.2.1],eB b_one_c2 [vI one_c2_Err,vI one_c2_Num,vL g901 r.2.2,vL g_one_c2_Numbers one_c2_Numbers],eO 9 tS r.2.2 g901] w'):=⟨Tryz.call63 _,answer_read_3_w M m   one_c0_c0 one_c2_Err one_c2_Num one_c2_Texts one_c2_Numbers r hm w hS⟩

theorem answer_read_5_w {b_u0 : Nat} {b_u0_c0 : Nat} {b_u1 : Nat} {g_u1_Texts : Gh} {g_u1_Numbers : Gh} (M : Av) (u0_c0 : Str) (u1_Err : Int) (u1_Num : Int) (u1_Texts : List Str) (u1_Numbers : List Int) (r : Bool × Str × (List Int)) (hm : answer_read_5 u0_c0 u1_Err u1_Num u1_Texts u1_Numbers = some r) (w : World) (hS : S0 M [eB b_u0 [.func (.func 60) ⟨[]⟩ ⟨[vP b_u0_c0]⟩],eB b_u0_c0 [vS u0_c0],eB b_u1 [vI u1_Err,vI u1_Num,vL g_u1_Texts u1_Texts,vL g_u1_Numbers u1_Numbers],eI tS u1_Texts g_u1_Texts,eO 3 (tI .i64) u1_Numbers g_u1_Numbers,Ent.gifc 2,Ent.gifc 3] w) : Calls Tryz.prog 66 ⟨[vP b_u0,vP b_u1]⟩ w (fun e w' => ∃ v,e = .returned v ∧ ∃ (g901 : Gh),v = vB r.1 ∧ SH M (fpl [eB b_u0 [.func (.func 60) ⟨[]⟩ ⟨[vP b_u0_c0]⟩],eB b_u0_c0 [vS u0_c0],eB b_u1 [vI u1_Err,vI u1_Num,vL g_u1_Texts u1_Texts,vL g_u1_Numbers u1_Numbers],eI tS u1_Texts g_u1_Texts,eO 3 (tI .i64) u1_Numbers g_u1_Numbers,Ent.gifc 2,Ent.gifc 3]) w [eB b_u0 [.func (.func 60) ⟨[]⟩ ⟨[vP b_u0_c0]⟩],eB b_u0_c0 [vS r.2.1],eB b_u1 [vI u1_Err,vI u1_Num,vL g_u1_Texts u1_Texts,vL g901 r.2.2],eO 3 (tI .i64) r.2.2 g901] w'):=by
 rw [answer_read_5] at hm
 have hS0 : SH M (fpl [eB b_u0 [.func (.func 60) ⟨[]⟩ ⟨[vP b_u0_c0]⟩],eB b_u0_c0 [vS u0_c0],eB b_u1 [vI u1_Err,vI u1_Num,vL g_u1_Texts u1_Texts,vL g_u1_Numbers u1_Numbers],eI tS u1_Texts g_u1_Texts,eO 3 (tI .i64) u1_Numbers g_u1_Numbers,Ent.gifc 2,Ent.gifc 3]) w [eB b_u0 [.func (.func 60) ⟨[]⟩ ⟨[vP b_u0_c0]⟩],eB b_u0_c0 [vS u0_c0],eB b_u1 [vI u1_Err,vI u1_Num,vL g_u1_Texts u1_Texts,vL g_u1_Numbers u1_Numbers],eI tS u1_Texts g_u1_Texts,eO 3 (tI .i64) u1_Numbers g_u1_Numbers,Ent.gifc 2,Ent.gifc 3] w:=hS
 generalize hX : fpl [eB b_u0 [.func (.func 60) ⟨[]⟩ ⟨[vP b_u0_c0]⟩],eB b_u0_c0 [vS u0_c0],eB b_u1 [vI u1_Err,vI u1_Num,vL g_u1_Texts u1_Texts,vL g_u1_Numbers u1_Numbers],eI tS u1_Texts g_u1_Texts,eO 3 (tI .i64) u1_Numbers g_u1_Numbers,Ent.gifc 2,Ent.gifc 3] = X at hS0 ⊢
 clear hS hX
 have hS:=hS0
 clear hS0
 refine calls_entryP Tryz.func66 rfl Tryz.ntmps66 rfl fun _ H => ?_
 refine s_reg [] [0,1] (fS [0,1] [vP b_u0,vP b_u1]) [] H (by kernel_rfl) trivial fun _ _ H2 hb => ?_
 replace hS:=hS.below hb
 clear H hb
 apply w_seq
 apply wl_start
 refine wl_batch 0 1 [(.func (.func 60) ⟨[]⟩ ⟨[vP b_u0_c0]⟩)] [1,6] (fS [1,6] [vP b_u1,.func (.func 60) ⟨[]⟩ ⟨[vP b_u0_c0]⟩]) [rA b_u0 0 (.func (.func 60) ⟨[]⟩ ⟨[vP b_u0_c0]⟩)] H2 (by decide) (by kernel_rfl) ⟨((hS.bk 0 rfl).at1 rfl),trivial⟩ fun _ _ H4 hb => ?_
 replace hS:=hS.below hb
 clear H2 hb
 obtain ⟨y5,hy5,hm⟩:=bindE hm
 have hd:=hS.hand [1,5,6] [0,2,3,4,5,6] rfl rfl
 refine m_stp [7,1] [(1,[],vP b_u1)] H4 rfl rfl rfl rfl (o_callx H4 rfl rfl (answer_read_2_ok (b_u0:=b_u0_c0) _ _ hy5 _ _ hd)) (fun _ => rfl) fun _ _ v H7 hq => ?_
 clear H4 hd
 obtain ⟨rfl,hq⟩:=hq
 replace hS : SH M X w [eB b_u0_c0 [vS y5.2.2],eB b_u0 [.func (.func 60) ⟨[]⟩ ⟨[vP b_u0_c0]⟩],eB b_u1 [vI u1_Err,vI u1_Num,vL g_u1_Texts u1_Texts,vL g_u1_Numbers u1_Numbers],eI tS u1_Texts g_u1_Texts,eO 3 (tI .i64) u1_Numbers g_u1_Numbers,Ent.gifc 2,Ent.gifc 3] _:=hS.join [1,5,6] [0,2,3,4,5,6] rfl rfl hq
 clear hq
 refine wl_batch 2 7 [] [1,3,4] (fS [1,3,4] [vP b_u1,vI y5.1,vB y5.2.1]) [] H7 (by decide) (by kernel_rfl) trivial fun _ _ H9 hb => ?_
 replace hS:=hS.below hb
 clear H7 hb
 apply wl_end rfl
 apply w_seq
 apply wl_start
 refine wl_batch 0 3 [(vL g_u1_Numbers u1_Numbers)] [1,4,11,12] (fS [1,4,11,12] [vP b_u1,vB y5.2.1,vL g_u1_Numbers u1_Numbers,vI y5.1]) [rA b_u1 3 (vL g_u1_Numbers u1_Numbers)] H9 (by decide) (by kernel_rfl) ⟨((hS.bk 2 rfl).at1 rfl),trivial⟩ fun _ _ H11 hb => ?_
 replace hS:=hS.below hb
 clear H9 hb
 have hd:=hS.hand [] [0,1,2,3,4,5,6] rfl rfl
 refine m_stp [13,1,4,11] (fS [1,4,11] [vP b_u1,vB y5.2.1,vL g_u1_Numbers u1_Numbers]) H11 rfl rfl rfl rfl (o_lit (T:=(tI .i64)) (E:=3) (zv:=vI 0) [vI y5.1] ([y5.1] : List Int) [gL []] _ H11 hd rfl (by kernel_rfl) (by kernel_rfl) (by kernel_rfl) (by kernel_rfl) (by kernel_rfl) (by kernel_rfl) (by kernel_rfl) rfl (InnL.cons trivial InnL.nil)) (fun _ => rfl) fun _ _ v H15 hq => ?_
 clear H11 hd
 obtain ⟨g12,rfl,hq⟩:=hq
 replace hS : SH M X w [eO 3 (tI .i64) ([y5.1] : List Int) g12,eB b_u0_c0 [vS y5.2.2],eB b_u0 [.func (.func 60) ⟨[]⟩ ⟨[vP b_u0_c0]⟩],eB b_u1 [vI u1_Err,vI u1_Num,vL g_u1_Texts u1_Texts,vL g_u1_Numbers u1_Numbers],eI tS u1_Texts g_u1_Texts,eO 3 (tI .i64) u1_Numbers g_u1_Numbers,Ent.gifc 2,Ent.gifc 3] _:=hS.join [] [0,1,2,3,4,5,6] rfl rfl hq
 clear hq
 obtain ⟨ho16,hm⟩:=chkE hm
 obtain ⟨q17,hq17,hm⟩:=letE hm
 have hd:=hS.hand [5,0] [1,2,3,4,6,7] rfl rfl
 refine m_stp [14,1,4] (fS [1,4] [vP b_u1,vB y5.2.1]) H15 rfl rfl rfl rfl (o_app2 (T:=(tI .i64)) (zv:=vI 0) (g1:=g_u1_Numbers) (g2:=g12) (l1:=u1_Numbers) (l2:=([y5.1] : List Int)) q17 hq17.symm H15 hd rfl rfl rfl rfl rfl rfl rfl (by kernel_rfl) (by kernel_rfl) rfl rfl ho16) (fun _ => rfl) fun _ _ v H19 hq => ?_
 clear H15 hd
 obtain ⟨g20,rfl,hq⟩:=hq
 replace hS : SH M X w [eO 3 (tI .i64) q17 g20,eO 3 (tI .i64) ([y5.1] : List Int) g12,eB b_u0_c0 [vS y5.2.2],eB b_u0 [.func (.func 60) ⟨[]⟩ ⟨[vP b_u0_c0]⟩],eB b_u1 [vI u1_Err,vI u1_Num,vL g_u1_Texts u1_Texts,vL g_u1_Numbers u1_Numbers],eI tS u1_Texts g_u1_Texts,Ent.gifc 2,Ent.gifc 3] _:=hS.join [5,0] [1,2,3,4,6,7] rfl rfl hq
 clear hq
 refine wl_batch 5 6 [] [4,14,15] (fS [4,14,15] [vB y5.2.1,vL g20 q17,vA b_u1 3]) [] H19 (by decide) (by kernel_rfl) trivial fun _ _ H22 hb => ?_
 replace hS:=hS.below hb
 clear H19 hb
 have hd:=hS.hand [4] [0,1,2,3,5,6,7] rfl rfl
 refine m_stp0 [4] [(4,[],vB y5.2.1)] H22 rfl rfl rfl (o_store [vI u1_Err,vI u1_Num,vL g_u1_Texts u1_Texts,vL g20 q17] H22 hd rfl rfl (by kernel_rfl) rfl rfl rfl) rfl fun _ _ H24 hq => ?_
 clear H22 hd
 obtain ⟨_,hq⟩:=hq
 replace hS : SH M X w [eB b_u1 [vI u1_Err,vI u1_Num,vL g_u1_Texts u1_Texts,vL g20 q17],eO 3 (tI .i64) q17 g20,eO 3 (tI .i64) ([y5.1] : List Int) g12,eB b_u0_c0 [vS y5.2.2],eB b_u0 [.func (.func 60) ⟨[]⟩ ⟨[vP b_u0_c0]⟩],eI tS u1_Texts g_u1_Texts,Ent.gifc 2,Ent.gifc 3] _:=hS.join [4] [0,1,2,3,5,6,7] rfl rfl hq
 clear hq
 apply wl_end rfl
 replace hS : SH M X w [eB b_u1 [vI u1_Err,vI u1_Num,vL g_u1_Texts u1_Texts,vL g20 q17],eO 3 (tI .i64) q17 g20,eB b_u0_c0 [vS y5.2.2],eB b_u0 [.func (.func 60) ⟨[]⟩ ⟨[vP b_u0_c0]⟩],eI tS u1_Texts g_u1_Texts,Ent.gifc 2,Ent.gifc 3] _:=hS.sel [0,1,3,4,5,6,7] rfl
 refine s_reg [] [2] [(2,[],vB y5.2.1)] [] H24 (by kernel_rfl) trivial fun _ _ H26 hb => ?_
 replace hS:=hS.below hb
 clear H24 hb
 apply w_ret
 obtain rfl:=someE hm
 exact retR1 H26 rfl rfl ⟨_,rfl,g20,rfl,(hS.sel [3,2,0,1] rfl)⟩
theorem answer_read_5_ok {b_u0 : Nat} {b_u0_c0 : Nat} {b_u1 : Nat} {g_u1_Texts : Gh} {g_u1_Numbers : Gh} (u0_c0 : Str) (u1_Err : Int) (u1_Num : Int) (u1_Texts : List Str) (u1_Numbers : List Int) (r : Bool × Str × (List Int)) (hm : answer_read_5 u0_c0 u1_Err u1_Num u1_Texts u1_Numbers = some r) (M : Av) (w : World) (hS : S0 M [eB b_u0 [.func (.func 60) ⟨[]⟩ ⟨[vP b_u0_c0]⟩],eB b_u0_c0 [vS u0_c0],eB b_u1 [vI u1_Err,vI u1_Num,vL g_u1_Texts u1_Texts,vL g_u1_Numbers u1_Numbers],eI tS u1_Texts g_u1_Texts,eO 3 (tI .i64) u1_Numbers g_u1_Numbers,Ent.gifc 2,Ent.gifc 3] w) : DoesX Tryz.prog 66 ⟨[vP b_u0,vP b_u1]⟩ w (fun v w' => ∃ (g901 : Gh),v = vB r.1 ∧ SH M (fpl [eB b_u0 [.func (.func 60) ⟨[]⟩ ⟨[vP b_u0_c0]⟩],eB b_u0_c0 [vS u0_c0],eB b_u1 [vI u1_Err,vI u1_Num,vL g_u1_Texts u1_Texts,vL g_u1_Numbers u1_Numbers],eI tS u1_Texts g_u1_Texts,eO 3 (tI .i64) u1_Numbers g_u1_Numbers,Ent.gifc 2,Ent.gifc 3]) w [eB b_u0 [.func (.func 60) ⟨[]⟩ ⟨[vP b_u0_c0]⟩],eB b_u0_c0 [vS r.2.1],eB b_u1 [vI u1_Err,vI u1_Num,vL g_u1_Texts u1_Texts,vL g901 r.2.2],eO 3 (tI .i64) r.2.2 g901] w'):=⟨Tryz.call66 _,answer_read_5_w M   u0_c0 u1_Err u1_Num u1_Texts u1_Numbers r hm w hS⟩

theorem answer_read_3_2_w {b_one_c0 : Nat} {b_one_c0_c0 : Nat} {b_one_c1 : Nat} {g_one_c1_Texts : Gh} {g_one_c1_Numbers : Gh} {b_u0 : Nat} (M : Av) (m : Nat) (one_c0_c0 : Str) (one_c1_Err : Int) (one_c1_Num : Int) (one_c1_Texts : List Str) (one_c1_Numbers : List Int) (r : Bool × Str × (List Int)) (hm : answer_read_3_2 m one_c0_c0 one_c1_Err one_c1_Num one_c1_Texts one_c1_Numbers = some r) (w : World) (hS : S0 M [eB b_one_c0 [.func (.func 60) ⟨[]⟩ ⟨[vP b_one_c0_c0]⟩],eB b_one_c0_c0 [vS one_c0_c0],eB b_one_c1 [vI one_c1_Err,vI one_c1_Num,vL g_one_c1_Texts one_c1_Texts,vL g_one_c1_Numbers one_c1_Numbers],eI tS one_c1_Texts g_one_c1_Texts,eO 3 (tI .i64) one_c1_Numbers g_one_c1_Numbers,eB b_u0 [.func (.func 58) ⟨[]⟩ ⟨[vP b_one_c0_c0]⟩],Ent.gifc 2,Ent.gifc 3] w) : Calls Tryz.prog 63 ⟨[.func (.func 66) ⟨[]⟩ ⟨[vP b_one_c0,vP b_one_c1]⟩,vP b_u0]⟩ w (fun e w' => ∃ v,e = .returned v ∧ ∃ (g901 : Gh),v = vB r.1 ∧ SH M (fpl [eB b_one_c0 [.func (.func 60) ⟨[]⟩ ⟨[vP b_one_c0_c0]⟩],eB b_one_c0_c0 [vS one_c0_c0],eB b_one_c1 [vI one_c1_Err,vI one_c1_Num,vL g_one_c1_Texts one_c1_Texts,vL g_one_c1_Numbers one_c1_Numbers],eI tS one_c1_Texts g_one_c1_Texts,eO 3 (tI .i64) one_c1_Numbers g_one_c1_Numbers,eB b_u0 [.func (.func 58) ⟨[]⟩ ⟨[vP b_one_c0_c0]⟩],Ent.gifc 2,Ent.gifc 3]) w [eB b_one_c0 [.func (.func 60) ⟨[]⟩ ⟨[vP b_one_c0_c0]⟩],eB b_one_c0_c0 [vS r.2.1],eB b_one_c1 [vI one_c1_Err,vI one_c1_Num,vL g_one_c1_Texts one_c1_Texts,vL g901 r.2.2],eO 3 (tI .i64) r.2.2 g901,eB b_u0 [.func (.func 58) ⟨[]⟩ ⟨[vP b_one_c0_c0]⟩]] w'):=by
 rw [answer_read_3_2] at hm
 have hS0 : SH M (fpl [eB b_one_c0 [.func (.func 60) ⟨[]⟩ ⟨[vP b_one_c0_c0]⟩],eB b_one_c0_c0 [vS one_c0_c0],eB b_one_c1 [vI one_c1_Err,vI one_c1_Num,vL g_one_c1_Texts one_c1_Texts,vL g_one_c1_Numbers one_c1_Numbers],eI tS one_c1_Texts g_one_c1_Texts,eO 3 (tI .i64) one_c1_Numbers g_one_c1_Numbers,eB b_u0 [.func (.func 58) ⟨[]⟩ ⟨[vP b_one_c0_c0]⟩],Ent.gifc 2,Ent.gifc 3]) w [eB b_one_c0 [.func (.func 60) ⟨[]⟩ ⟨[vP b_one_c0_c0]⟩],eB b_one_c0_c0 [vS one_c0_c0],eB b_one_c1 [vI one_c1_Err,vI one_c1_Num,vL g_one_c1_Texts one_c1_Texts,vL g_one_c1_Numbers one_c1_Numbers],eI tS one_c1_Texts g_one_c1_Texts,eO 3 (tI .i64) one_c1_Numbers g_one_c1_Numbers,eB b_u0 [.func (.func 58) ⟨[]⟩ ⟨[vP b_one_c0_c0]⟩],Ent.gifc 2,Ent.gifc 3] w:=hS
 generalize hX : fpl [eB b_one_c0 [.func (.func 60) ⟨[]⟩ ⟨[vP b_one_c0_c0]⟩],eB b_one_c0_c0 [vS one_c0_c0],eB b_one_c1 [vI one_c1_Err,vI one_c1_Num,vL g_one_c1_Texts one_c1_Texts,vL g_one_c1_Numbers one_c1_Numbers],eI tS one_c1_Texts g_one_c1_Texts,eO 3 (tI .i64) one_c1_Numbers g_one_c1_Numbers,eB b_u0 [.func (.func 58) ⟨[]⟩ ⟨[vP b_one_c0_c0]⟩],Ent.gifc 2,Ent.gifc 3] = X at hS0 ⊢
 clear hS hX
 have hS:=hS0
 clear hS0
 refine calls_entryP Tryz.func63 rfl Tryz.ntmps63 rfl fun _ H => ?_
 refine s_reg [] [0,1] (fS [0,1] [.func (.func 66) ⟨[]⟩ ⟨[vP b_one_c0,vP b_one_c1]⟩,vP b_u0]) [] H (by kernel_rfl) trivial fun _ _ H2 hb => ?_
 replace hS:=hS.below hb
 clear H hb
 apply w_seq
 apply w_seq
 apply wl_start
 refine wl_batch 0 1 [(.func (.func 58) ⟨[]⟩ ⟨[vP b_one_c0_c0]⟩)] [0,1,5] (fS [0,1,5] [.func (.func 66) ⟨[]⟩ ⟨[vP b_one_c0,vP b_one_c1]⟩,vP b_u0,.func (.func 58) ⟨[]⟩ ⟨[vP b_one_c0_c0]⟩]) [rA b_u0 0 (.func (.func 58) ⟨[]⟩ ⟨[vP b_one_c0_c0]⟩)] H2 (by decide) (by kernel_rfl) ⟨((hS.bk 5 rfl).at1 rfl),trivial⟩ fun _ _ H4 hb => ?_
 replace hS:=hS.below hb
 clear H2 hb
 obtain ⟨y5,hy5,hm⟩:=bindE hm
 have hd:=hS.hand [1] [0,2,3,4,5,6,7] rfl rfl
 refine m_stp [6,0,1] (fS [0,1] [.func (.func 66) ⟨[]⟩ ⟨[vP b_one_c0,vP b_one_c1]⟩,vP b_u0]) H4 rfl rfl rfl rfl (o_callx H4 rfl rfl (answer_read_1_ok (b_u0:=b_one_c0_c0) _ _ _ hy5 _ _ hd)) (fun _ => rfl) fun _ _ v H7 hq => ?_
 clear H4 hd
 obtain ⟨rfl,hq⟩:=hq
 replace hS : SH M X w [eB b_one_c0_c0 [vS y5.2],eB b_one_c0 [.func (.func 60) ⟨[]⟩ ⟨[vP b_one_c0_c0]⟩],eB b_one_c1 [vI one_c1_Err,vI one_c1_Num,vL g_one_c1_Texts one_c1_Texts,vL g_one_c1_Numbers one_c1_Numbers],eI tS one_c1_Texts g_one_c1_Texts,eO 3 (tI .i64) one_c1_Numbers g_one_c1_Numbers,eB b_u0 [.func (.func 58) ⟨[]⟩ ⟨[vP b_one_c0_c0]⟩],Ent.gifc 2,Ent.gifc 3] _:=hS.join [1] [0,2,3,4,5,6,7] rfl rfl hq
 clear hq
 refine wl_batch 2 3 [] [0,1,7] (fS [0,1,7] [.func (.func 66) ⟨[]⟩ ⟨[vP b_one_c0,vP b_one_c1]⟩,vP b_u0,vB (!y5.1)]) [] H7 (by decide) (by kernel_rfl) trivial fun _ _ H9 hb => ?_
 replace hS:=hS.below hb
 clear H7 hb
 apply wl_end rfl
 refine w_if H9 rfl (fun hc => ?c78) (fun hc => ?_)
 case c78 =>
  replace hm:=bT hc hm
  refine s_reg [] [3] [(3,[],vF)] [] H9 (by kernel_rfl) trivial fun _ _ H11 hb => ?_
  replace hS:=hS.below hb
  clear H9 hb
  apply w_ret
  obtain rfl:=someE hm
  exact retR1 H11 rfl rfl ⟨_,rfl,g_one_c1_Numbers,rfl,(hS.sel [1,0,2,4,5] rfl)⟩
 replace hm:=bF hc hm
 apply w_skip
 obtain ⟨z12,hz,hm_z12⟩:=bindE hm
 refine w_cut (fun a' w' => ∃ s_z12 : Str × (List Int),z12 = Sum.inr s_z12 ∧ ∃ (g74 : Gh),Fr 23 [] a' ∧ SH M X w [eB b_one_c0_c0 [vS s_z12.1],eB b_one_c0 [.func (.func 60) ⟨[]⟩ ⟨[vP b_one_c0_c0]⟩],eB b_one_c1 [vI one_c1_Err,vI one_c1_Num,vL g_one_c1_Texts one_c1_Texts,vL g74 s_z12.2],eI tS one_c1_Texts g_one_c1_Texts,eO 3 (tI .i64) s_z12.2 g74,eB b_u0 [.func (.func 58) ⟨[]⟩ ⟨[vP b_one_c0_c0]⟩],Ent.gifc 2,Ent.gifc 3] w') ?_ ?_
 ·replace hm:=hz
  refine s_reg [] [0,1,4] (fS [0,1,4] [.func (.func 66) ⟨[]⟩ ⟨[vP b_one_c0,vP b_one_c1]⟩,vP b_u0,vT]) [] H9 (by kernel_rfl) trivial fun _ _ H14 hb => ?_
  replace hS:=hS.below hb
  clear H9 hb
  apply w_block
  refine w_loop (fun kk a' w' => ∃ (v15 : Bool) (v16 : Str) (v17 : List Int) (g18 : Gh),answer_read_3_2_L1 m one_c1_Err one_c1_Num one_c1_Texts kk v15 v16 v17 = some _ ∧ Fr 23 (fS [0,1,4] [.func (.func 66) ⟨[]⟩ ⟨[vP b_one_c0,vP b_one_c1]⟩,vP b_u0,vB v15]) a' ∧ SH M X w [eB b_one_c0_c0 [vS v16],eB b_one_c0 [.func (.func 60) ⟨[]⟩ ⟨[vP b_one_c0_c0]⟩],eB b_one_c1 [vI one_c1_Err,vI one_c1_Num,vL g_one_c1_Texts one_c1_Texts,vL g18 v17],eI tS one_c1_Texts g_one_c1_Texts,eO 3 (tI .i64) v17 g18,eB b_u0 [.func (.func 58) ⟨[]⟩ ⟨[vP b_one_c0_c0]⟩],Ent.gifc 2,Ent.gifc 3] w') ⟨_,true,y5.2,one_c1_Numbers,g_one_c1_Numbers,hm,FrG.keep (ks:=[0,1,4]) H14 (by kernel_rfl),hS⟩ ?_
  clear hm H14 hS
  rintro kk _ _ ⟨v15,v16,v17,g18,hm,H,hS⟩
  cases kk with
  | zero => exact noneE hm
  | succ kk =>
   rw [answer_read_3_2_L1] at hm
   apply w_seq
   apply w_seq
   apply wl_start
   refine wl_batch 0 1 [(.func (.func 58) ⟨[]⟩ ⟨[vP b_one_c0_c0]⟩)] [0,1,4,8] (fS [0,1,4,8] [.func (.func 66) ⟨[]⟩ ⟨[vP b_one_c0,vP b_one_c1]⟩,vP b_u0,vB v15,.func (.func 58) ⟨[]⟩ ⟨[vP b_one_c0_c0]⟩]) [rA b_u0 0 (.func (.func 58) ⟨[]⟩ ⟨[vP b_one_c0_c0]⟩)] H (by decide) (by kernel_rfl) ⟨((hS.bk 5 rfl).at1 rfl),trivial⟩ fun _ _ H20 hb => ?_
   replace hS:=hS.below hb
   clear H hb
   obtain ⟨y21,hy21,hm⟩:=bindE hm
   have hd:=hS.hand [0] [1,2,3,4,5,6,7] rfl rfl
   refine m_stp [9,0,1,4] (fS [0,1,4] [.func (.func 66) ⟨[]⟩ ⟨[vP b_one_c0,vP b_one_c1]⟩,vP b_u0,vB v15]) H20 rfl rfl rfl rfl (o_callx H20 rfl rfl (answer_read_1_ok (b_u0:=b_one_c0_c0) _ _ _ hy21 _ _ hd)) (fun _ => rfl) fun _ _ v H23 hq => ?_
   clear H20 hd
   obtain ⟨rfl,hq⟩:=hq
   replace hS : SH M X w [eB b_one_c0_c0 [vS y21.2],eB b_one_c0 [.func (.func 60) ⟨[]⟩ ⟨[vP b_one_c0_c0]⟩],eB b_one_c1 [vI one_c1_Err,vI one_c1_Num,vL g_one_c1_Texts one_c1_Texts,vL g18 v17],eI tS one_c1_Texts g_one_c1_Texts,eO 3 (tI .i64) v17 g18,eB b_u0 [.func (.func 58) ⟨[]⟩ ⟨[vP b_one_c0_c0]⟩],Ent.gifc 2,Ent.gifc 3] _:=hS.join [0] [1,2,3,4,5,6,7] rfl rfl hq
   clear hq
   refine wl_batch 2 3 [] [0,1,4,10] (fS [0,1,4,10] [.func (.func 66) ⟨[]⟩ ⟨[vP b_one_c0,vP b_one_c1]⟩,vP b_u0,vB v15,vB (!y21.1)]) [] H23 (by decide) (by kernel_rfl) trivial fun _ _ H25 hb => ?_
   replace hS:=hS.below hb
   clear H23 hb
   apply wl_end rfl
   refine w_if H25 rfl (fun hc => ?_) (fun hc => ?c72)
   case c72 =>
    replace hm:=bF hc hm
    apply w_exit rfl
    obtain rfl:=someE hm
    exact ⟨_,rfl,g18,FrG.keep (ks:=[]) H25 (by kernel_rfl),hS⟩
   replace hm:=bT hc hm
   apply w_skip
   apply w_seq
   apply w_block
   obtain ⟨z26,hz,hm⟩:=bindE hm
   refine w_cut (fun a' w' => ∃ (g64 : Gh),Fr 23 (fS [0,1,22] [.func (.func 66) ⟨[]⟩ ⟨[vP b_one_c0,vP b_one_c1]⟩,vP b_u0,vB z26.1]) a' ∧ SH M X w [eO 3 (tI .i64) z26.2.2 g64,eB b_one_c0_c0 [vS z26.2.1],eB b_one_c0 [.func (.func 60) ⟨[]⟩ ⟨[vP b_one_c0_c0]⟩],eB b_one_c1 [vI one_c1_Err,vI one_c1_Num,vL g_one_c1_Texts one_c1_Texts,vL g64 z26.2.2],eI tS one_c1_Texts g_one_c1_Texts,eB b_u0 [.func (.func 58) ⟨[]⟩ ⟨[vP b_one_c0_c0]⟩],Ent.gifc 2,Ent.gifc 3] w') ?_ ?_
   ·replace hm:=hz
    apply wl_start
    obtain ⟨x27,hx27,hm⟩:=letE hm
    refine wl_batch 0 3 [] [0,1,13] (fS [0,1,13] [.func (.func 66) ⟨[]⟩ ⟨[vP b_one_c0,vP b_one_c1]⟩,vP b_u0,vB x27]) [] H25 (by decide) (by subst hx27; kernel_rfl) trivial fun _ _ H29 hb => ?_
    replace hS:=hS.below hb
    clear H25 hb
    cases x27
    case false =>
     replace hm:=bF rfl hm
     refine m_skipG 13 [14,0,1,13] (fS [14,0,1,13] [undef,.func (.func 66) ⟨[]⟩ ⟨[vP b_one_c0,vP b_one_c1]⟩,vP b_u0,vF]) H29 rfl rfl rfl rfl rfl rfl fun _ H52 => ?_
     clear H29
     refine m_skipG 13 [15,0,1,13] (fS [15,0,1,13] [undef,.func (.func 66) ⟨[]⟩ ⟨[vP b_one_c0,vP b_one_c1]⟩,vP b_u0,vF]) H52 rfl rfl rfl rfl rfl rfl fun _ H53 => ?_
     clear H52
     refine m_skipG 13 [16,0,1,13] (fS [16,0,1,13] [undef,.func (.func 66) ⟨[]⟩ ⟨[vP b_one_c0,vP b_one_c1]⟩,vP b_u0,vF]) H53 rfl rfl rfl rfl rfl rfl fun _ H54 => ?_
     clear H53
     refine wl_batchM 6 9 [] [(0,0),(1,0),(18,0),(19,1)] (fS [0,1,18,19] [.func (.func 66) ⟨[]⟩ ⟨[vP b_one_c0,vP b_one_c1]⟩,vP b_u0,vF,.func (.func 66) ⟨[]⟩ ⟨[vP b_one_c0,vP b_one_c1]⟩]) [] H54 (by decide) (by kernel_rfl) trivial fun _ _ H56 hb => ?_
     replace hS:=hS.below hb
     clear H54 hb
     obtain ⟨y57,hy57,hm⟩:=bindE hm
     have hd:=hS.hand [1,0,2,3,4,6,7] [3,5,6,7] rfl rfl
     refine m_stpG 18 [20,0,1,18] (fS [0,1,18] [.func (.func 66) ⟨[]⟩ ⟨[vP b_one_c0,vP b_one_c1]⟩,vP b_u0,vF]) H56 rfl rfl rfl rfl (o_callx H56 rfl rfl (answer_read_5_ok (b_u0:=b_one_c0) (b_u0_c0:=b_one_c0_c0) (b_u1:=b_one_c1) (g_u1_Texts:=g_one_c1_Texts) (g_u1_Numbers:=g18) _ _ _ _ _ _ hy57 _ _ hd)) (fun _ => rfl) fun _ _ v H61 hq => ?_
     clear H56 hd
     obtain ⟨g58,rfl,hq⟩:=hq
     replace hS : SH M X w [eB b_one_c0 [.func (.func 60) ⟨[]⟩ ⟨[vP b_one_c0_c0]⟩],eB b_one_c0_c0 [vS y57.2.1],eB b_one_c1 [vI one_c1_Err,vI one_c1_Num,vL g_one_c1_Texts one_c1_Texts,vL g58 y57.2.2],eO 3 (tI .i64) y57.2.2 g58,eI tS one_c1_Texts g_one_c1_Texts,eB b_u0 [.func (.func 58) ⟨[]⟩ ⟨[vP b_one_c0_c0]⟩],Ent.gifc 2,Ent.gifc 3] _:=hS.join [1,0,2,3,4,6,7] [3,5,6,7] rfl rfl hq
     clear hq
     refine wl_batch 10 12 [] [0,1,22] (fS [0,1,22] [.func (.func 66) ⟨[]⟩ ⟨[vP b_one_c0,vP b_one_c1]⟩,vP b_u0,vB (!y57.1)]) [] H61 (by decide) (by kernel_rfl) trivial fun _ _ H63 hb => ?_
     replace hS:=hS.below hb
     clear H61 hb
     apply wl_end rfl
     obtain rfl:=someE hm
     replace hS : SH M X w [eO 3 (tI .i64) y57.2.2 g58,eB b_one_c0_c0 [vS y57.2.1],eB b_one_c0 [.func (.func 60) ⟨[]⟩ ⟨[vP b_one_c0_c0]⟩],eB b_one_c1 [vI one_c1_Err,vI one_c1_Num,vL g_one_c1_Texts one_c1_Texts,vL g58 y57.2.2],eI tS one_c1_Texts g_one_c1_Texts,eB b_u0 [.func (.func 58) ⟨[]⟩ ⟨[vP b_one_c0_c0]⟩],Ent.gifc 2,Ent.gifc 3] _:=hS.sel [3,1,0,2,4,5,6,7] rfl
     exact ⟨g58,FrG.keep (ks:=[0,1,22]) H63 (by kernel_rfl),hS⟩
    replace hm:=bT rfl hm
    refine wl_batchM 3 4 [(.func (.func 58) ⟨[]⟩ ⟨[vP b_one_c0_c0]⟩)] [(0,0),(1,0),(13,0),(14,1)] (fS [0,1,13,14] [.func (.func 66) ⟨[]⟩ ⟨[vP b_one_c0,vP b_one_c1]⟩,vP b_u0,vT,.func (.func 58) ⟨[]⟩ ⟨[vP b_one_c0_c0]⟩]) [fun wz => (true = true ∧ True → V.at1 ⟨b_u0,0,none⟩ (.func (.func 58) ⟨[]⟩ ⟨[vP b_one_c0_c0]⟩) wz)] H29 (by decide) (by kernel_rfl) ⟨fun hg => (hS.bk 5 rfl).at1 rfl,trivial⟩ fun _ _ H31 hb => ?_
    replace hS:=hS.below hb
    clear H29 hb
    obtain ⟨y32,hy32,hm⟩:=bindE hm
    have hd:=hS.hand [0] [1,2,3,4,5,6,7] rfl rfl
    refine m_stpG 13 [15,0,1,13] (fS [0,1,13] [.func (.func 66) ⟨[]⟩ ⟨[vP b_one_c0,vP b_one_c1]⟩,vP b_u0,vT]) H31 rfl rfl rfl rfl (o_callx H31 rfl rfl (answer_read_1_ok (b_u0:=b_one_c0_c0) _ _ _ hy32 _ _ hd)) (fun _ => rfl) fun _ _ v H34 hq => ?_
    clear H31 hd
    obtain ⟨rfl,hq⟩:=hq
    replace hS : SH M X w [eB b_one_c0_c0 [vS y32.2],eB b_one_c0 [.func (.func 60) ⟨[]⟩ ⟨[vP b_one_c0_c0]⟩],eB b_one_c1 [vI one_c1_Err,vI one_c1_Num,vL g_one_c1_Texts one_c1_Texts,vL g18 v17],eI tS one_c1_Texts g_one_c1_Texts,eO 3 (tI .i64) v17 g18,eB b_u0 [.func (.func 58) ⟨[]⟩ ⟨[vP b_one_c0_c0]⟩],Ent.gifc 2,Ent.gifc 3] _:=hS.join [0] [1,2,3,4,5,6,7] rfl rfl hq
    clear hq
    obtain ⟨x35,hx35,hm⟩:=letE hm
    refine wl_batch 5 8 [] [0,1,18] (fS [0,1,18] [.func (.func 66) ⟨[]⟩ ⟨[vP b_one_c0,vP b_one_c1]⟩,vP b_u0,vB x35]) [] H34 (by decide) (by subst hx35; kernel_rfl) trivial fun _ _ H37 hb => ?_
    replace hS:=hS.below hb
    clear H34 hb
    cases x35
    case true =>
     replace hm:=bT rfl hm
     refine m_skipG 18 [19,0,1,18] (fS [19,0,1,18] [undef,.func (.func 66) ⟨[]⟩ ⟨[vP b_one_c0,vP b_one_c1]⟩,vP b_u0,vT]) H37 rfl rfl rfl rfl rfl rfl fun _ H38 => ?_
     clear H37
     refine m_skipG 18 [20,0,1,18] (fS [20,0,1,18] [undef,.func (.func 66) ⟨[]⟩ ⟨[vP b_one_c0,vP b_one_c1]⟩,vP b_u0,vT]) H38 rfl rfl rfl rfl rfl rfl fun _ H39 => ?_
     clear H38
     refine m_skipG 18 [21,0,1,18] (fS [21,0,1,18] [undef,.func (.func 66) ⟨[]⟩ ⟨[vP b_one_c0,vP b_one_c1]⟩,vP b_u0,vT]) H39 rfl rfl rfl rfl rfl rfl fun _ H40 => ?_
     clear H39
     refine wl_batch 11 12 [] [0,1,22] (fS [0,1,22] [.func (.func 66) ⟨[]⟩ ⟨[vP b_one_c0,vP b_one_c1]⟩,vP b_u0,vT]) [] H40 (by decide) (by kernel_rfl) trivial fun _ _ H42 hb => ?_
     replace hS:=hS.below hb
     clear H40 hb
     apply wl_end rfl
     obtain rfl:=someE hm
     replace hS : SH M X w [eO 3 (tI .i64) v17 g18,eB b_one_c0_c0 [vS y32.2],eB b_one_c0 [.func (.func 60) ⟨[]⟩ ⟨[vP b_one_c0_c0]⟩],eB b_one_c1 [vI one_c1_Err,vI one_c1_Num,vL g_one_c1_Texts one_c1_Texts,vL g18 v17],eI tS one_c1_Texts g_one_c1_Texts,eB b_u0 [.func (.func 58) ⟨[]⟩ ⟨[vP b_one_c0_c0]⟩],Ent.gifc 2,Ent.gifc 3] _:=hS.sel [4,0,1,2,3,5,6,7] rfl
     exact ⟨g18,FrG.keep (ks:=[0,1,22]) H42 (by kernel_rfl),hS⟩
    replace hm:=bF rfl hm
    refine wl_batchM 8 9 [] [(0,0),(1,0),(18,0),(19,1)] (fS [0,1,18,19] [.func (.func 66) ⟨[]⟩ ⟨[vP b_one_c0,vP b_one_c1]⟩,vP b_u0,vF,.func (.func 66) ⟨[]⟩ ⟨[vP b_one_c0,vP b_one_c1]⟩]) [] H37 (by decide) (by kernel_rfl) trivial fun _ _ H44 hb => ?_
    replace hS:=hS.below hb
    clear H37 hb
    obtain ⟨y45,hy45,hm⟩:=bindE hm
    have hd:=hS.hand [1,0,2,3,4,6,7] [3,5,6,7] rfl rfl
    refine m_stpG 18 [20,0,1,18] (fS [0,1,18] [.func (.func 66) ⟨[]⟩ ⟨[vP b_one_c0,vP b_one_c1]⟩,vP b_u0,vF]) H44 rfl rfl rfl rfl (o_callx H44 rfl rfl (answer_read_5_ok (b_u0:=b_one_c0) (b_u0_c0:=b_one_c0_c0) (b_u1:=b_one_c1) (g_u1_Texts:=g_one_c1_Texts) (g_u1_Numbers:=g18) _ _ _ _ _ _ hy45 _ _ hd)) (fun _ => rfl) fun _ _ v H49 hq => ?_
    clear H44 hd
    obtain ⟨g46,rfl,hq⟩:=hq
    replace hS : SH M X w [eB b_one_c0 [.func (.func 60) ⟨[]⟩ ⟨[vP b_one_c0_c0]⟩],eB b_one_c0_c0 [vS y45.2.1],eB b_one_c1 [vI one_c1_Err,vI one_c1_Num,vL g_one_c1_Texts one_c1_Texts,vL g46 y45.2.2],eO 3 (tI .i64) y45.2.2 g46,eI tS one_c1_Texts g_one_c1_Texts,eB b_u0 [.func (.func 58) ⟨[]⟩ ⟨[vP b_one_c0_c0]⟩],Ent.gifc 2,Ent.gifc 3] _:=hS.join [1,0,2,3,4,6,7] [3,5,6,7] rfl rfl hq
    clear hq
    refine wl_batch 10 12 [] [0,1,22] (fS [0,1,22] [.func (.func 66) ⟨[]⟩ ⟨[vP b_one_c0,vP b_one_c1]⟩,vP b_u0,vB (!y45.1)]) [] H49 (by decide) (by kernel_rfl) trivial fun _ _ H51 hb => ?_
    replace hS:=hS.below hb
    clear H49 hb
    apply wl_end rfl
    obtain rfl:=someE hm
    replace hS : SH M X w [eO 3 (tI .i64) y45.2.2 g46,eB b_one_c0_c0 [vS y45.2.1],eB b_one_c0 [.func (.func 60) ⟨[]⟩ ⟨[vP b_one_c0_c0]⟩],eB b_one_c1 [vI one_c1_Err,vI one_c1_Num,vL g_one_c1_Texts one_c1_Texts,vL g46 y45.2.2],eI tS one_c1_Texts g_one_c1_Texts,eB b_u0 [.func (.func 58) ⟨[]⟩ ⟨[vP b_one_c0_c0]⟩],Ent.gifc 2,Ent.gifc 3] _:=hS.sel [3,1,0,2,4,5,6,7] rfl
    exact ⟨g46,FrG.keep (ks:=[0,1,22]) H51 (by kernel_rfl),hS⟩
   ·rintro _ _ ⟨g64,H,hS⟩
    refine w_if H rfl (fun hc => ?_) (fun hc => ?c70)
    case c70 =>
     replace hm:=bF hc hm
     apply w_skip
     refine w_reg [] [0,1,4] (fS [0,1,4] [.func (.func 66) ⟨[]⟩ ⟨[vP b_one_c0,vP b_one_c1]⟩,vP b_u0,vF]) [] H (by kernel_rfl) trivial fun _ _ H69 hb => ?_
     replace hS:=hS.below hb
     clear H hb
     replace hS : SH M X w [eB b_one_c0_c0 [vS z26.2.1],eB b_one_c0 [.func (.func 60) ⟨[]⟩ ⟨[vP b_one_c0_c0]⟩],eB b_one_c1 [vI one_c1_Err,vI one_c1_Num,vL g_one_c1_Texts one_c1_Texts,vL g64 z26.2.2],eI tS one_c1_Texts g_one_c1_Texts,eO 3 (tI .i64) z26.2.2 g64,eB b_u0 [.func (.func 58) ⟨[]⟩ ⟨[vP b_one_c0_c0]⟩],Ent.gifc 2,Ent.gifc 3] _:=hS.sel [1,2,3,4,0,5,6,7] rfl
     exact ⟨_,Nat.lt_succ_self _,false,z26.2.1,z26.2.2,g64,hm,FrG.keep (ks:=[0,1,4]) H69 (by kernel_rfl),hS⟩
    replace hm:=bT hc hm
    refine s_reg [] [3] [(3,[],vF)] [] H (by kernel_rfl) trivial fun _ _ H67 hb => ?_
    replace hS:=hS.below hb
    clear H hb
    apply w_ret
    obtain rfl:=someE hm
    have hm:=hm_z12
    obtain rfl:=someE hm
    exact retR1 H67 rfl rfl ⟨_,rfl,g64,rfl,(hS.sel [2,1,3,0,5] rfl)⟩
 ·rintro _ _ ⟨s_z12,hz,g74,H,hS⟩
  subst hz
  replace hm:=sumR hm_z12
  refine s_reg [] [3] [(3,[],vT)] [] H (by kernel_rfl) trivial fun _ _ H76 hb => ?_
  replace hS:=hS.below hb
  clear H hb
  apply w_ret
  obtain rfl:=someE hm
  exact retR1 H76 rfl rfl ⟨_,rfl,g74,rfl,(hS.sel [1,0,2,4,5] rfl)⟩
theorem answer_read_3_2_ok {b_one_c0 : Nat} {b_one_c0_c0 : Nat} {b_one_c1 : Nat} {g_one_c1_Texts : Gh} {g_one_c1_Numbers : Gh} {b_u0 : Nat} (m : Nat) (one_c0_c0 : Str) (one_c1_Err : Int) (one_c1_Num : Int) (one_c1_Texts : List Str) (one_c1_Numbers : List Int) (r : Bool × Str × (List Int)) (hm : answer_read_3_2 m one_c0_c0 one_c1_Err one_c1_Num one_c1_Texts one_c1_Numbers = some r) (M : Av) (w : World) (hS : S0 M [eB b_one_c0 [.func (.func 60) ⟨[]⟩ ⟨[vP b_one_c0_c0]⟩],eB b_one_c0_c0 [vS one_c0_c0],eB b_one_c1 [vI one_c1_Err,vI one_c1_Num,vL g_one_c1_Texts one_c1_Texts,vL g_one_c1_Numbers one_c1_Numbers],eI tS one_c1_Texts g_one_c1_Texts,eO 3 (tI .i64) one_c1_Numbers g_one_c1_Numbers,eB b_u0 [.func (.func 58) ⟨[]⟩ ⟨[vP b_one_c0_c0]⟩],Ent.gifc 2,Ent.gifc 3] w) : DoesX Tryz.prog 63 ⟨[.func (.func 66) ⟨[]⟩ ⟨[vP b_one_c0,vP b_one_c1]⟩,vP b_u0]⟩ w (fun v w' => ∃ (g901 : Gh),v = vB r.1 ∧ SH M (fpl [eB b_one_c0 [.func (.func 60) ⟨[]⟩ ⟨[vP b_one_c0_c0]⟩],eB b_one_c0_c0 [vS one_c0_c0],eB b_one_c1 [vI one_c1_Err,vI one_c1_Num,vL g_one_c1_Texts one_c1_Texts,vL g_one_c1_Numbers one_c1_Numbers],eI tS one_c1_Texts g_one_c1_Texts,eO 3 (tI .i64) one_c1_Numbers g_one_c1_Numbers,eB b_u0 [.func (.func 58) ⟨[]⟩ ⟨[vP b_one_c0_c0]⟩],Ent.gifc 2,Ent.gifc 3]) w [eB b_one_c0 [.func (.func 60) ⟨[]⟩ ⟨[vP b_one_c0_c0]⟩],eB b_one_c0_c0 [vS r.2.1],eB b_one_c1 [vI one_c1_Err,vI one_c1_Num,vL g_one_c1_Texts one_c1_Texts,vL g901 r.2.2],eO 3 (tI .i64) r.2.2 g901,eB b_u0 [.func (.func 58) ⟨[]⟩ ⟨[vP b_one_c0_c0]⟩]] w'):=⟨Tryz.call63 _,answer_read_3_2_w M m   one_c0_c0 one_c1_Err one_c1_Num one_c1_Texts one_c1_Numbers r hm w hS⟩

end Go.Proofs.YtipafpkdkhnjmaaGreatDoor
