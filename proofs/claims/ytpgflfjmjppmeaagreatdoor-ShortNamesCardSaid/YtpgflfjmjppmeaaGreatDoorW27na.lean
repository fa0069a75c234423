/-
  What the Go functions compute, as Lean functions, and that a call returns just that. Printed by a program.
-/
import Derived.Test.YtpgflfjmjppmeaaGreatDoorRows
import Derived.Test.YtpgflfjmjppmeaaGreatDoorX
import Derived.Test.YtpgflfjmjppmeaaGreatDoorMP
import Derived.Test.YtpgflfjmjppmeaaGreatDoorCO
import Derived.Test.YtpgflfjmjppmeaaGreatDoorAF
import Derived.Test.YtpgflfjmjppmeaaGreatDoorM
set_option linter.unusedVariables false
set_option maxRecDepth 20000
set_option maxHeartbeats 4000000
namespace Go.Proofs.YtpgflfjmjppmeaaGreatDoor
open Go.V Go.RowKit

abbrev vS (l : Str) : Value := .string ⟨⟨l⟩⟩
abbrev vN : Value := .string ⟨⟨[]⟩⟩
abbrev vI (n : Int) : Value := .int .i64 n
abbrev vU (n : Int) : Value := .int .u8 n
abbrev vT : Value := .bool true
abbrev vF : Value := .bool false
abbrev vP (b : Nat) : Value := .pointer (some ⟨b, 0, none⟩)
abbrev vA (b o : Nat) : Value := .pointer (some ⟨b, o, none⟩)
abbrev vQ : Value := .pointer none
abbrev vO : Value := .slice none 0 0
abbrev vB (b : Bool) : Value := .bool b
abbrev vG (l : List Value) : Value := .agg ⟨l⟩
abbrev vW (l : List Value) : Value := .tuple ⟨l⟩
abbrev vJ (n : Int) : Value := .int .i32 n
abbrev vL {α : Type} (g : Gh) (l : List α) : Value := .slice g.a l.length g.c
abbrev eO {α : Type} (E : TypeId) (T : Ty α) (l : List α) (g : Gh) : Ent := .own E T l g
abbrev eI {α : Type} (T : Ty α) (l : List α) (g : Gh) : Ent := .im T l g
abbrev eB (b : Nat) (cs : List Value) : Ent := .blk b cs
abbrev zN : List Value := [vN, vI 0, vN, vQ, vO]
def fS : List Nat → List Value → SF
  | k :: ks, v :: vs => (k, [], v) :: fS ks vs
  | _, _ => []
abbrev cV (x : TVal) : List Value := [vU x.Kind, vS x.Word, vI x.Num, vU x.Color.Red, vU x.Color.Green, vU x.Color.Blue, vU x.Color.Alpha]
abbrev cT (x : TToken) : List Value := [vU x.Kind, vS x.Text, vI x.Num, vS x.Unit, vB x.Flag]
abbrev cC (x : TColor) : List Value := [vU x.Red, vU x.Green, vU x.Blue, vU x.Alpha]
abbrev vK (g : Gh) (n : Nat) : Value := .slice g.a n g.c
abbrev kL0 : List Str := [[97, 117, 116, 111]]
abbrev kL1 : List Str := [[116, 111, 112], [114, 105, 103, 104, 116], [98, 111, 116, 116, 111, 109], [108, 101, 102, 116]]
abbrev kL2 : List Str := [[109, 97, 114, 103, 105, 110, 45, 116, 111, 112], [49, 112, 120], [109, 97, 114, 103, 105, 110, 45, 114, 105, 103, 104, 116], [97, 117, 116, 111], [109, 97, 114, 103, 105, 110, 45, 98, 111, 116, 116, 111, 109], [49, 112, 120], [109, 97, 114, 103, 105, 110, 45, 108, 101, 102, 116], [97, 117, 116, 111]]
abbrev kL3 : List Str := [[109, 97, 114, 103, 105, 110, 45, 116, 111, 112], [49, 112, 120], [109, 97, 114, 103, 105, 110, 45, 114, 105, 103, 104, 116], [50, 112, 120], [109, 97, 114, 103, 105, 110, 45, 98, 111, 116, 116, 111, 109], [49, 112, 120], [109, 97, 114, 103, 105, 110, 45, 108, 101, 102, 116], [50, 112, 120]]
abbrev kL4 : List Int := [239, 191, 189]
abbrev kL5 : List Str := [[109, 97, 114, 103, 105, 110, 45, 116, 111, 112], [49, 112, 120, 32, 118, 97, 114, 40, 45, 45, 97, 41], [109, 97, 114, 103, 105, 110, 45, 114, 105, 103, 104, 116], [49, 112, 120, 32, 118, 97, 114, 40, 45, 45, 97, 41], [109, 97, 114, 103, 105, 110, 45, 98, 111, 116, 116, 111, 109], [49, 112, 120, 32, 118, 97, 114, 40, 45, 45, 97, 41], [109, 97, 114, 103, 105, 110, 45, 108, 101, 102, 116], [49, 112, 120, 32, 118, 97, 114, 40, 45, 45, 97, 41]]
abbrev kL6 : List Int := [2, 3, 4, 0]
abbrev kL7 : List Str := [[98, 111, 114, 100, 101, 114, 45, 99, 111, 108, 111, 114], [82, 69, 68]]
abbrev kL8 : List Str := [[], [49, 112, 120, 32, 50, 112, 120, 32, 51, 112, 120, 32, 52, 112, 120, 32, 53, 112, 120], [49, 112, 120, 32, 105, 110, 104, 101, 114, 105, 116], [49, 112, 120, 47, 50, 112, 120], [40, 49, 112, 120, 41], [49], [97, 117, 116, 111, 32, 97, 117, 116, 111, 32, 97, 117, 116, 111, 32, 110, 111, 110, 101], [114, 101, 100], [49, 112, 120, 44, 50, 112, 120]]
abbrev kL9 : List Str := [[45, 45, 113]]
abbrev kL10 : List Int := [2, 3, 4]
abbrev kL11 : List Int := [0, 0, 1]
abbrev kL12 : List Str := [[111, 117, 116, 108, 105, 110, 101, 45, 99, 111, 108, 111, 114], [117, 110, 115, 101, 116]]
abbrev kL13 : List Str := [[109, 97, 114, 103, 105, 110, 45, 116, 111, 112]]
abbrev kL14 : List Str := [[109, 97, 114, 103, 105, 110, 45, 116, 111, 112], [82, 69, 86, 69, 82, 84], [109, 97, 114, 103, 105, 110, 45, 114, 105, 103, 104, 116], [82, 69, 86, 69, 82, 84], [109, 97, 114, 103, 105, 110, 45, 98, 111, 116, 116, 111, 109], [82, 69, 86, 69, 82, 84], [109, 97, 114, 103, 105, 110, 45, 108, 101, 102, 116], [82, 69, 86, 69, 82, 84]]
abbrev kL15 : List Str := [[98, 97, 99, 107, 103, 114, 111, 117, 110, 100, 45, 99, 111, 108, 111, 114], [86, 65, 82, 40, 45, 45, 98, 44, 32, 114, 101, 100, 41]]
abbrev kL16 : List Str := [[109, 97, 114, 103, 105, 110], [98, 111, 114, 100, 101, 114], [111, 117, 116, 108, 105, 110, 101], [98, 97, 99, 107, 103, 114, 111, 117, 110, 100]]
abbrev kL17 : List Str := [[99, 111, 108, 111, 114], [73, 110, 104, 101, 114, 105, 116]]
abbrev kL18 : List Str := [[119, 105, 100, 116, 104], [99, 97, 108, 99, 40, 49, 112, 120, 32, 43, 32, 118, 97, 114, 40, 45, 45, 119, 41, 41]]
abbrev kL19 : List Str := [[98, 97, 99, 107, 103, 114, 111, 117, 110, 100, 45, 99, 111, 108, 111, 114], [35, 102, 102, 102]]
abbrev kL20 : List Str := [[105, 110, 105, 116, 105, 97, 108], [105, 110, 104, 101, 114, 105, 116], [117, 110, 115, 101, 116], [114, 101, 118, 101, 114, 116]]
abbrev kL21 : List Str := [[109, 97, 114, 103, 105, 110, 45, 116, 111, 112], [48], [109, 97, 114, 103, 105, 110, 45, 114, 105, 103, 104, 116], [48], [109, 97, 114, 103, 105, 110, 45, 98, 111, 116, 116, 111, 109], [48], [109, 97, 114, 103, 105, 110, 45, 108, 101, 102, 116], [48]]
abbrev kL22 : List Str := [[109, 97, 114, 103, 105, 110, 45, 116, 111, 112], [49, 112, 120], [109, 97, 114, 103, 105, 110, 45, 114, 105, 103, 104, 116], [50, 101, 109], [109, 97, 114, 103, 105, 110, 45, 98, 111, 116, 116, 111, 109], [97, 117, 116, 111], [109, 97, 114, 103, 105, 110, 45, 108, 101, 102, 116], [50, 101, 109]]
abbrev kL23 : List Str := [[109, 97, 114, 103, 105, 110, 45, 116, 111, 112], [49, 112, 120], [109, 97, 114, 103, 105, 110, 45, 114, 105, 103, 104, 116], [50, 112, 120], [109, 97, 114, 103, 105, 110, 45, 98, 111, 116, 116, 111, 109], [51, 112, 120], [109, 97, 114, 103, 105, 110, 45, 108, 101, 102, 116], [52, 112, 120]]
abbrev kL24 : List Str := [[45, 45, 97], [105, 110, 105, 116, 105, 97, 108]]
abbrev kL25 : List Str := [[45, 45, 118], [49, 32, 118, 97, 114, 40, 45, 45, 118, 41]]
abbrev kL26 : List Str := [[98, 111, 114, 100, 101, 114, 45, 99, 111, 108, 111, 114], [99, 117, 114, 114, 101, 110, 116, 99, 111, 108, 111, 114]]
abbrev rB (f : FuncId) (l : List Value) (v : Value) : World → Prop := fun wz => RetB Tryz.prog f ⟨l⟩ v wz
abbrev rN (b o : Nat) (l : List Value) : World → Prop := fun wz => V.atN b o l 0 wz
abbrev rA (b o : Nat) (v : Value) : World → Prop := fun wz => V.at1 ⟨b, o, none⟩ v wz
theorem short_Names_w  (M : Av)  (r : List Str) (hm : short_Names = r) (w : World) (hS : S0 M [] w) : Calls Tryz.prog 20 ⟨[]⟩ w (fun e w' => ∃ v,e = .returned v ∧ ∃ (g901 : Gh),v = vL g901 r ∧ SH M (fpl []) w [eO 9 tS r g901] w'):=by
 rw [short_Names] at hm
 have hS0 : SH M (fpl []) w [] w:=hS
 generalize hX : fpl [] = X at hS0 ⊢
 clear hS hX
 have hS:=hS0
 clear hS0
 refine calls_entryP Tryz.func20 rfl Tryz.ntmps20 rfl fun _ H => ?_
 refine s_reg [] [] [] [] H (by kernel_rfl) trivial fun _ _ H2 hb => ?_
 replace hS:=hS.below hb
 apply w_seq
 apply wl_start
 have hd:=hS.hand [] [] rfl rfl
 refine m_stp [1] [] H2 rfl rfl rfl rfl (o_lit (T:=tS) (E:=9) (zv:=vN) [vS [109,97,114,103,105,110],vS [98,111,114,100,101,114],vS [111,117,116,108,105,110,101],vS [98,97,99,107,103,114,111,117,110,100]] kL16 [gL [],gL [],gL [],gL []] _ H2 hd rfl (by kernel_rfl) (by kernel_rfl) (by kernel_rfl) (by kernel_rfl) (by kernel_rfl) (by kernel_rfl) (by kernel_rfl) rfl (InnL.cons trivial (InnL.cons trivial (InnL.cons trivial (InnL.cons trivial InnL.nil))))) (fun _ => rfl) fun _ _ v H6 hq => ?_
 obtain ⟨g3,rfl,hq⟩:=hq
 replace hS : SH M X w [eO 9 tS kL16 g3] _:=hS.join [] [] rfl rfl hq
 refine wl_batch 1 2 [] [0] [(0,[],vK g3 4)] [] H6 (by decide) (by kernel_rfl) trivial fun _ _ H8 hb => ?_
 replace hS:=hS.below hb
 apply wl_end rfl
 apply w_ret
 subst hm
 exact retR1 H8 rfl rfl ⟨_,rfl,g3,rfl,(hS.sel [0] rfl)⟩
theorem short_Names_ok   (r : List Str) (hm : short_Names = r) (M : Av) (w : World) (hS : S0 M [] w) : DoesX Tryz.prog 20 ⟨[]⟩ w (fun v w' => ∃ (g901 : Gh),v = vL g901 r ∧ SH M (fpl []) w [eO 9 tS r g901] w'):=⟨Tryz.call20 _,short_Names_w M    r hm w hS⟩

theorem r27_SameTexts_w {g_a_ : Gh} {g_b_ : Gh} (M : Av) (m : Nat) (a_ : List Str) (b_ : List Str) (r : Bool) (hm : r27_SameTexts m a_ b_ = some r) (w : World) (hS : S0 M [eI tS a_ g_a_,eI tS b_ g_b_] w) : Calls Tryz.prog 13 ⟨[vL g_a_ a_,vL g_b_ b_]⟩ w (fun e w' => ∃ v,e = .returned v ∧ v = vB r ∧ SH M (fpl [eI tS a_ g_a_,eI tS b_ g_b_]) w [] w'):=by
 rw [r27_SameTexts] at hm
 have hS0 : SH M (fpl [eI tS a_ g_a_,eI tS b_ g_b_]) w [eI tS a_ g_a_,eI tS b_ g_b_] w:=hS
 generalize hX : fpl [eI tS a_ g_a_,eI tS b_ g_b_] = X at hS0 ⊢
 clear hS hX
 have hS:=hS0
 clear hS0
 refine calls_entryP Tryz.func13 rfl Tryz.ntmps13 rfl fun _ H => ?_
 refine s_reg [] [0,1] (fS [0,1] [vL g_a_ a_,vL g_b_ b_]) [] H (by kernel_rfl) trivial fun _ _ H2 hb => ?_
 replace hS:=hS.below hb
 apply w_seq
 refine s_reg [] [0,1,10] (fS [0,1,10] [vL g_a_ a_,vL g_b_ b_,vB ((ln a_) != (ln b_))]) [] H2 (by kernel_rfl) trivial fun _ _ H4 hb => ?_
 replace hS:=hS.below hb
 refine w_if H4 rfl (fun hc => ?c27) (fun hc => ?_)
 case c27 =>
  replace hm:=bT hc hm
  refine s_reg [] [4] [(4,[],vF)] [] H4 (by kernel_rfl) trivial fun _ _ H6 hb => ?_
  replace hS:=hS.below hb
  replace hS : SH M X w [] _:=hS.sel [] rfl
  apply w_ret
  obtain rfl:=someE hm
  exact retR1 H6 rfl rfl ⟨_,rfl,rfl,(hS.sel [] rfl)⟩
 replace hm:=bF hc hm
 apply w_skip
 obtain ⟨z7,hz,hm_z7⟩:=bindE hm
 refine w_cut (fun a' w' => ∃ s_z7 : Unit,z7 = Sum.inr s_z7 ∧ Fr 26 [] a' ∧ SH M X w [eI tS a_ g_a_,eI tS b_ g_b_] w') ?_ ?_
 ·replace hm:=hz
  refine s_reg [] [0,1,5] (fS [0,1,5] [vL g_a_ a_,vL g_b_ b_,vI 0]) [] H4 (by kernel_rfl) trivial fun _ _ H9 hb => ?_
  replace hS:=hS.below hb
  apply w_block
  refine w_loop (fun kk a' w' => ∃ (v10 : Int),r27_SameTexts_L1 m a_ b_ kk v10 = some _ ∧ Fr 26 (fS [0,1,5] [vL g_a_ a_,vL g_b_ b_,vI v10]) a' ∧ SH M X w [eI tS a_ g_a_,eI tS b_ g_b_] w') ⟨_,0,hm,FrG.keep (ks:=[0,1,5]) H9 (by kernel_rfl),hS⟩ ?_
  clear hm H9 hS
  rintro kk _ _ ⟨v10,hm,H,hS⟩
  cases kk with
  | zero => exact noneE hm
  | succ kk =>
   rw [r27_SameTexts_L1] at hm
   apply w_seq
   refine s_reg [] [0,1,5,14] (fS [0,1,5,14] [vL g_a_ a_,vL g_b_ b_,vI v10,vB (decide (v10 < (ln a_)))]) [] H (by kernel_rfl) trivial fun _ _ H12 hb => ?_
   replace hS:=hS.below hb
   refine w_if H12 rfl (fun hc => ?_) (fun hc => ?c22)
   case c22 =>
    replace hm:=bF hc hm
    apply w_exit rfl
    obtain rfl:=someE hm
    exact ⟨_,rfl,FrG.keep (ks:=[]) H12 (by kernel_rfl),hS⟩
   replace hm:=bT hc hm
   apply w_skip
   apply w_seq
   apply w_block
   obtain ⟨ho13,hm⟩:=chkE hm
   obtain ⟨ho14,hm⟩:=chkE hm
   refine s_draw [(vS (gi a_ v10)),(vS (gi b_ v10))] [0,1,5,25] (fS [0,1,5,25] [vL g_a_ a_,vL g_b_ b_,vI v10,vB (!((gi a_ v10) == (gi b_ v10)))]) [fun _ => oka g_a_.a ∧ 0 ≤ v10 ∧ v10 < ln a_,fun wz => V.at1 ⟨ab g_a_.a,ao g_a_.a + (v10).toNat * 1,none⟩ (vS (gi a_ v10)) wz,fun _ => oka g_b_.a ∧ 0 ≤ v10 ∧ v10 < ln b_,fun wz => V.at1 ⟨ab g_b_.a,ao g_b_.a + (v10).toNat * 1,none⟩ (vS (gi b_ v10)) wz] H12 (by kernel_rfl) (by kernel_rfl) (by kernel_rfl) ⟨((hS.im 0 rfl).oki ho13),((hS.im 0 rfl).at1 ho13 0 rfl),((hS.im 1 rfl).oki ho14),((hS.im 1 rfl).at1 ho14 0 rfl),trivial⟩ fun _ _ H16 hb => ?_
   replace hS:=hS.below hb
   refine w_if H16 rfl (fun hc => ?_) (fun hc => ?c21)
   case c21 =>
    replace hm:=bF hc hm
    apply w_skip
    refine w_reg [] [0,1,5] (fS [0,1,5] [vL g_a_ a_,vL g_b_ b_,vI (w64 (v10 + 1))]) [] H16 (by kernel_rfl) trivial fun _ _ H20 hb => ?_
    replace hS:=hS.below hb
    exact ⟨_,Nat.lt_succ_self _,w64 (v10 + 1),hm,FrG.keep (ks:=[0,1,5]) H20 (by kernel_rfl),hS⟩
   replace hm:=bT hc hm
   refine s_reg [] [4] [(4,[],vF)] [] H16 (by kernel_rfl) trivial fun _ _ H18 hb => ?_
   replace hS:=hS.below hb
   apply w_ret
   obtain rfl:=someE hm
   have hm:=hm_z7
   obtain rfl:=someE hm
   exact retR1 H18 rfl rfl ⟨_,rfl,rfl,(hS.sel [] rfl)⟩
 ·rintro _ _ ⟨s_z7,hz,H,hS⟩
  subst hz
  replace hm:=sumR hm_z7
  replace hS : SH M X w [] _:=hS.sel [] rfl
  refine s_reg [] [4] [(4,[],vT)] [] H (by kernel_rfl) trivial fun _ _ H25 hb => ?_
  replace hS:=hS.below hb
  apply w_ret
  obtain rfl:=someE hm
  exact retR1 H25 rfl rfl ⟨_,rfl,rfl,(hS.sel [] rfl)⟩
theorem r27_SameTexts_ok {g_a_ : Gh} {g_b_ : Gh} (m : Nat) (a_ : List Str) (b_ : List Str) (r : Bool) (hm : r27_SameTexts m a_ b_ = some r) (w : World) (hL : S0 F0 [eI tS a_ g_a_,eI tS b_ g_b_] w ∧ fpl [eI tS a_ g_a_,eI tS b_ g_b_] = []) : RetB Tryz.prog 13 ⟨[vL g_a_ a_,vL g_b_ b_]⟩ (vB r) w:=retB_of hL (Tryz.call13 _) (fun w' h => r27_SameTexts_w F0 m   a_ b_ r hm w' h)

theorem r01_Cleaned_w  (M : Av) (m : Nat) (s : Str) (r : Str) (hm : r01_Cleaned m s = some r) (w : World) (hS : S0 M [] w) : Calls Tryz.prog 90 ⟨[vS s]⟩ w (fun e w' => ∃ v,e = .returned v ∧ v = vS r ∧ SH M (fpl []) w [] w'):=by
 rw [r01_Cleaned] at hm
 have hS0 : SH M (fpl []) w [] w:=hS
 generalize hX : fpl [] = X at hS0 ⊢
 clear hS hX
 have hS:=hS0
 clear hS0
 refine calls_entryP Tryz.func90 rfl Tryz.ntmps90 rfl fun _ H => ?_
 refine s_reg [] [0] [(0,[],vS s)] [] H (by kernel_rfl) trivial fun _ _ H2 hb => ?_
 replace hS:=hS.below hb
 refine s_reg [] [0,3] (fS [0,3] [vS s,vN]) [] H2 (by kernel_rfl) trivial fun _ _ H4 hb => ?_
 replace hS:=hS.below hb
 obtain ⟨z5,hz,hm⟩:=bindE hm
 refine w_cut (fun a' w' => Fr 46 [(3,[],vS z5)] a' ∧ SH M X w [] w') ?_ ?_
 ·replace hm:=hz
  refine s_reg [] [0,3,4] (fS [0,3,4] [vS s,vN,vI 0]) [] H4 (by kernel_rfl) trivial fun _ _ H7 hb => ?_
  replace hS:=hS.below hb
  apply w_block
  refine w_loop (fun kk a' w' => ∃ (v8 : Str) (v9 : Int),r01_Cleaned_L1 m s kk v8 v9 = some _ ∧ Fr 46 (fS [0,3,4] [vS s,vS v8,vI v9]) a' ∧ SH M X w [] w') ⟨_,[],0,hm,FrG.keep (ks:=[0,3,4]) H7 (by kernel_rfl),hS⟩ ?_
  clear hm H7 hS
  rintro kk _ _ ⟨v8,v9,hm,H,hS⟩
  cases kk with
  | zero => exact noneE hm
  | succ kk =>
   rw [r01_Cleaned_L1] at hm
   apply w_seq
   refine s_reg [] [0,3,4,9] (fS [0,3,4,9] [vS s,vS v8,vI v9,vB (decide (v9 < (ln s)))]) [] H (by kernel_rfl) trivial fun _ _ H11 hb => ?_
   replace hS:=hS.below hb
   refine w_if H11 rfl (fun hc => ?_) (fun hc => ?c54)
   case c54 =>
    replace hm:=bF hc hm
    apply w_exit rfl
    obtain rfl:=someE hm
    exact ⟨FrG.keep (ks:=[3]) H11 (by kernel_rfl),hS⟩
   replace hm:=bT hc hm
   apply w_skip
   obtain ⟨z12,hz,hm⟩:=bindE hm
   refine w_cut (fun a' w' => Fr 46 (fS [0,4,3] [vS s,vI v9,vS z12]) a' ∧ SH M X w [] w') ?_ ?_
   ·replace hm:=hz
    apply w_block
    obtain ⟨ho13,hm⟩:=chkE hm
    refine s_reg [] [0,3,4,5] (fS [0,3,4,5] [vS s,vS v8,vI v9,vU (bat s v9)]) [fun _ => 0 ≤ v9 ∧ v9 < ln s] H11 (by kernel_rfl) ⟨ho13,trivial⟩ fun _ _ H15 hb => ?_
    replace hS:=hS.below hb
    apply w_seq
    obtain ⟨x16,hx16,hm⟩:=letE hm
    obtain ⟨ho17,hm⟩:=chkE hm
    obtain ⟨x18,hx18,hm⟩:=letE hm
    refine s_reg [] [0,3,4,5,27] (fS [0,3,4,5,27] [vS s,vS v8,vI v9,vU (bat s v9),vB x18]) [fun _ => (x16 = true ∧ True → 0 ≤ (w64 (v9 - 1)) ∧ (w64 (v9 - 1)) < ln s)] H15 (by subst hx16 hx18; kernel_rfl) ⟨fun hg => (ho17 hg.1),trivial⟩ fun _ _ H20 hb => ?_
    replace hS:=hS.below hb
    refine w_if H20 rfl (fun hc => ?c50) (fun hc => ?_)
    case c50 =>
     replace hm:=bT hc hm
     apply w_exit rfl
     obtain rfl:=someE hm
     exact ⟨FrG.keep (ks:=[0,4,3]) H20 (by kernel_rfl),hS⟩
    replace hm:=bF hc hm
    apply w_skip
    obtain ⟨z21,hz,hm⟩:=bindE hm
    refine w_cut (fun a' w' => Fr 46 (fS [0,3,4,5] [vS s,vS v8,vI v9,vU z21]) a' ∧ SH M X w [] w') ?_ ?_
    ·replace hm:=hz
     obtain ⟨x22,hx22,hm⟩:=letE hm
     refine s_reg [] [0,3,4,5,33] (fS [0,3,4,5,33] [vS s,vS v8,vI v9,vU (bat s v9),vB x22]) [] H20 (by subst hx22; kernel_rfl) trivial fun _ _ H24 hb => ?_
     replace hS:=hS.below hb
     refine w_if H24 rfl (fun hc => ?_) (fun hc => ?c27)
     case c27 =>
      replace hm:=bF hc hm
      apply w_skip
      obtain rfl:=someE hm
      exact ⟨FrG.keep (ks:=[0,3,4,5]) H24 (by kernel_rfl),hS⟩
     replace hm:=bT hc hm
     refine w_reg [] [0,3,4,5] (fS [0,3,4,5] [vS s,vS v8,vI v9,vU 10]) [] H24 (by kernel_rfl) trivial fun _ _ H26 hb => ?_
     replace hS:=hS.below hb
     obtain rfl:=someE hm
     exact ⟨FrG.keep (ks:=[0,3,4,5]) H26 (by kernel_rfl),hS⟩
    ·rintro _ _ ⟨H,hS⟩
     refine s_reg [] [0,3,4,5,35] (fS [0,3,4,5,35] [vS s,vS v8,vI v9,vU z21,vB (z21 == 0)]) [] H (by kernel_rfl) trivial fun _ _ H29 hb => ?_
     replace hS:=hS.below hb
     refine w_if H29 rfl (fun hc => ?_) (fun hc => ?c48)
     case c48 =>
      replace hm:=bF hc hm
      apply wl_start
      refine wl_batch 0 2 [] [0,4,40,41] (fS [0,4,40,41] [vS s,vI v9,vS v8,vU z21]) [] H29 (by decide) (by kernel_rfl) trivial fun _ _ H40 hb => ?_
      replace hS:=hS.below hb
      have hd:=hS.hand [] [] rfl rfl
      refine m_stp [42,0,4,40] (fS [0,4,40] [vS s,vI v9,vS v8]) H40 rfl rfl rfl rfl (o_lit (T:=(tI .u8)) (E:=5) (zv:=vU 0) [vU z21] ([z21] : List Int) [gL []] _ H40 hd rfl (by kernel_rfl) (by kernel_rfl) (by kernel_rfl) (by kernel_rfl) (by kernel_rfl) (by kernel_rfl) (by kernel_rfl) rfl (InnL.cons trivial InnL.nil)) (fun _ => rfl) fun _ _ v H44 hq => ?_
      obtain ⟨g41,rfl,hq⟩:=hq
      replace hS : SH M X w [eO 5 (tI .u8) ([z21] : List Int) g41] _:=hS.join [] [] rfl rfl hq
      obtain ⟨ho45,hm⟩:=chkE hm
      refine wl_batch 3 6 [(vS (toB ([z21] : List Int)))] [0,3,4] (fS [0,3,4] [vS s,vS (v8 ++ (toB ([z21] : List Int))),vI v9]) [fun wz => ∀ w',Below wz.heap.size wz w' → (convert 98 9 (vK g41 1)).run Tryz.prog w' = .ok (vS (toB ([z21] : List Int))) w',fun _ => ln v8 + ln (toB ([z21] : List Int)) ≤ 9223372036854775807] H44 (by decide) (by kernel_rfl) ⟨(conv_slG (E:=5) (by kernel_rfl) (by kernel_rfl) (by kernel_rfl) (hS.osl 0 rfl)),ho45,trivial⟩ fun _ _ H47 hb => ?_
      replace hS:=hS.below hb
      apply wl_end rfl
      replace hS : SH M X w [] _:=hS.sel [] rfl
      obtain rfl:=someE hm
      exact ⟨FrG.keep (ks:=[0,4,3]) H47 (by kernel_rfl),hS⟩
     replace hm:=bT hc hm
     apply wl_start
     refine wl_batch 0 1 [] [0,4,36] (fS [0,4,36] [vS s,vI v9,vS v8]) [] H29 (by decide) (by kernel_rfl) trivial fun _ _ H31 hb => ?_
     replace hS:=hS.below hb
     have hd:=hS.hand [] [] rfl rfl
     refine m_stp [37,0,4,36] (fS [0,4,36] [vS s,vI v9,vS v8]) H31 rfl rfl rfl rfl (o_lit (T:=(tI .u8)) (E:=5) (zv:=vU 0) [vU 239,vU 191,vU 189] kL4 [gL [],gL [],gL []] _ H31 hd rfl (by kernel_rfl) (by kernel_rfl) (by kernel_rfl) (by kernel_rfl) (by kernel_rfl) (by kernel_rfl) (by kernel_rfl) rfl (InnL.cons trivial (InnL.cons trivial (InnL.cons trivial InnL.nil)))) (fun _ => rfl) fun _ _ v H35 hq => ?_
     obtain ⟨g32,rfl,hq⟩:=hq
     replace hS : SH M X w [eO 5 (tI .u8) kL4 g32] _:=hS.join [] [] rfl rfl hq
     obtain ⟨ho36,hm⟩:=chkE hm
     refine wl_batch 2 5 [(vS (toB kL4))] [0,3,4] (fS [0,3,4] [vS s,vS (v8 ++ (toB kL4)),vI v9]) [fun wz => ∀ w',Below wz.heap.size wz w' → (convert 98 9 (vK g32 3)).run Tryz.prog w' = .ok (vS (toB kL4)) w',fun _ => ln v8 + ln (toB kL4) ≤ 9223372036854775807] H35 (by decide) (by kernel_rfl) ⟨(conv_slG (E:=5) (by kernel_rfl) (by kernel_rfl) (by kernel_rfl) (hS.osl 0 rfl)),ho36,trivial⟩ fun _ _ H38 hb => ?_
     replace hS:=hS.below hb
     apply wl_end rfl
     replace hS : SH M X w [] _:=hS.sel [] rfl
     obtain rfl:=someE hm
     exact ⟨FrG.keep (ks:=[0,4,3]) H38 (by kernel_rfl),hS⟩
   ·rintro _ _ ⟨H,hS⟩
    refine w_reg [] [0,3,4] (fS [0,3,4] [vS s,vS z12,vI (w64 (v9 + 1))]) [] H (by kernel_rfl) trivial fun _ _ H52 hb => ?_
    replace hS:=hS.below hb
    exact ⟨_,Nat.lt_succ_self _,z12,w64 (v9 + 1),hm,FrG.keep (ks:=[0,3,4]) H52 (by kernel_rfl),hS⟩
 ·rintro _ _ ⟨H,hS⟩
  refine s_reg [] [2] [(2,[],vS z5)] [] H (by kernel_rfl) trivial fun _ _ H57 hb => ?_
  replace hS:=hS.below hb
  apply w_ret
  obtain rfl:=someE hm
  exact retR1 H57 rfl rfl ⟨_,rfl,rfl,(hS.sel [] rfl)⟩
theorem r01_Cleaned_ok  (m : Nat) (s : Str) (r : Str) (hm : r01_Cleaned m s = some r) : Ret Tryz.prog 90 ⟨[vS s]⟩ (vS r):=retP_of (Tryz.call90 _) (fun w h => r01_Cleaned_w F0 m   s r hm w h)

theorem r01_Clean_w  (M : Av) (m : Nat) (s : Str) (r : Str × Int) (hm : r01_Clean m s = some r) (w : World) (hS : S0 M [] w) : Calls Tryz.prog 72 ⟨[vS s]⟩ w (fun e w' => ∃ v,e = .returned v ∧ v = vW [vS r.1,vI r.2] ∧ SH M (fpl []) w [] w'):=by
 rw [r01_Clean] at hm
 have hS0 : SH M (fpl []) w [] w:=hS
 generalize hX : fpl [] = X at hS0 ⊢
 clear hS hX
 have hS:=hS0
 clear hS0
 refine calls_entryP Tryz.func72 rfl Tryz.ntmps72 rfl fun _ H => ?_
 refine s_reg [] [0] [(0,[],vS s)] [] H (by kernel_rfl) trivial fun _ _ H2 hb => ?_
 replace hS:=hS.below hb
 apply w_seq
 refine s_reg [] [0,6] (fS [0,6] [vS s,vB (decide (4000 < (ln s)))]) [] H2 (by kernel_rfl) trivial fun _ _ H4 hb => ?_
 replace hS:=hS.below hb
 refine w_if H4 rfl (fun hc => ?c10) (fun hc => ?_)
 case c10 =>
  replace hm:=bT hc hm
  refine s_reg [] [2,3] (fS [2,3] [vN,vI 28]) [] H4 (by kernel_rfl) trivial fun _ _ H6 hb => ?_
  replace hS:=hS.below hb
  apply w_ret
  obtain rfl:=someE hm
  exact retR2 H6 rfl rfl rfl ⟨_,rfl,rfl,(hS.sel [] rfl)⟩
 replace hm:=bF hc hm
 apply w_skip
 obtain ⟨y7,hy7,hm⟩:=bindE hm
 refine s_reg [(vS y7)] [2,3] (fS [2,3] [vS y7,vI 0]) [rB 90 [vS s] (vS y7)] H4 (by kernel_rfl) ⟨((r01_Cleaned_ok m _ _ hy7).b),trivial⟩ fun _ _ H9 hb => ?_
 replace hS:=hS.below hb
 apply w_ret
 obtain rfl:=someE hm
 exact retR2 H9 rfl rfl rfl ⟨_,rfl,rfl,(hS.sel [] rfl)⟩
theorem r01_Clean_ok  (m : Nat) (s : Str) (r : Str × Int) (hm : r01_Clean m s = some r) : Ret Tryz.prog 72 ⟨[vS s]⟩ (vW [vS r.1,vI r.2]):=retP_of (Tryz.call72 _) (fun w h => r01_Clean_w F0 m   s r hm w h)

def tyToken : Ty TToken where
  z:=5
  enc:=fun x g => (cT x)
  inn:=fun _ _ _ _ => True
  len:=fun _ _ => rfl
  one:=fun _ _ => rfl
  kp:=fun _ _ _ => trivial
  anti:=fun _ _ => trivial
  fresh:=fun _ => trivial
theorem r02_has_w  (M : Av) (s : Str) (i : Int) (x_ : Str) (r : Bool) (hm : r02_has s i x_ = some r) (w : World) (hS : S0 M [] w) : Calls Tryz.prog 101 ⟨[vS s,vI i,vS x_]⟩ w (fun e w' => ∃ v,e = .returned v ∧ v = vB r ∧ SH M (fpl []) w [] w'):=by
 rw [r02_has] at hm
 have hS0 : SH M (fpl []) w [] w:=hS
 generalize hX : fpl [] = X at hS0 ⊢
 clear hS hX
 have hS:=hS0
 clear hS0
 refine calls_entryP Tryz.func101 rfl Tryz.ntmps101 rfl fun _ H => ?_
 refine s_reg [] [0,1,2] (fS [0,1,2] [vS s,vI i,vS x_]) [] H (by kernel_rfl) trivial fun _ _ H2 hb => ?_
 replace hS:=hS.below hb
 obtain ⟨ho3,hm⟩:=chkE hm
 obtain ⟨x4,hx4,hm⟩:=letE hm
 refine s_reg [] [6] [(6,[],vB x4)] [fun _ => ((decide ((ln x_) ≤ (w64 ((ln s) - i)))) = true ∧ True → 0 ≤ i ∧ i ≤ (w64 (i + (ln x_))) ∧ (w64 (i + (ln x_))) ≤ ln s)] H2 (by subst hx4; kernel_rfl) ⟨fun hg => (ho3 hg.1),trivial⟩ fun _ _ H6 hb => ?_
 replace hS:=hS.below hb
 apply w_ret
 obtain rfl:=someE hm
 exact retR1 H6 rfl rfl ⟨_,rfl,rfl,(hS.sel [] rfl)⟩
theorem r02_has_ok  (s : Str) (i : Int) (x_ : Str) (r : Bool) (hm : r02_has s i x_ = some r) : Ret Tryz.prog 101 ⟨[vS s,vI i,vS x_]⟩ (vB r):=retP_of (Tryz.call101 _) (fun w h => r02_has_w F0   s i x_ r hm w h)

theorem r02_Past_w  (M : Av) (m : Nat) (s : Str) (i : Int) (r : Int) (hm : r02_Past m s i = some r) (w : World) (hS : S0 M [] w) : Calls Tryz.prog 91 ⟨[vS s,vI i]⟩ w (fun e w' => ∃ v,e = .returned v ∧ v = vI r ∧ SH M (fpl []) w [] w'):=by
 rw [r02_Past] at hm
 have hS0 : SH M (fpl []) w [] w:=hS
 generalize hX : fpl [] = X at hS0 ⊢
 clear hS hX
 have hS:=hS0
 clear hS0
 refine calls_entryP Tryz.func91 rfl Tryz.ntmps91 rfl fun _ H => ?_
 refine s_reg [] [0,1] (fS [0,1] [vS s,vI i]) [] H (by kernel_rfl) trivial fun _ _ H2 hb => ?_
 replace hS:=hS.below hb
 obtain ⟨z3,hz,hm⟩:=bindE hm
 refine w_cut (fun a' w' => Fr 28 [(1,[],vI z3)] a' ∧ SH M X w [] w') ?_ ?_
 ·replace hm:=hz
  apply w_block
  refine w_loop (fun kk a' w' => ∃ (v4 : Int),r02_Past_L1 m s kk v4 = some _ ∧ Fr 28 (fS [0,1] [vS s,vI v4]) a' ∧ SH M X w [] w') ⟨_,i,hm,FrG.keep (ks:=[0,1]) H2 (by kernel_rfl),hS⟩ ?_
  clear hm H2 hS
  rintro kk _ _ ⟨v4,hm,H,hS⟩
  cases kk with
  | zero => exact noneE hm
  | succ kk =>
   rw [r02_Past_L1] at hm
   apply w_seq
   obtain ⟨y5,hy5,hm⟩:=bindE hm
   refine s_reg [(vB y5)] [0,1,7] (fS [0,1,7] [vS s,vI v4,vB y5]) [rB 101 [vS s,vI v4,vS [47,42]] (vB y5)] H (by kernel_rfl) ⟨((r02_has_ok _ _ _ _ hy5).b),trivial⟩ fun _ _ H7 hb => ?_
   replace hS:=hS.below hb
   refine w_if H7 rfl (fun hc => ?_) (fun hc => ?c24)
   case c24 =>
    replace hm:=bF hc hm
    apply w_exit rfl
    obtain rfl:=someE hm
    exact ⟨FrG.keep (ks:=[1]) H7 (by kernel_rfl),hS⟩
   replace hm:=bT hc hm
   apply w_skip
   apply w_block
   refine s_reg [] [0,1] (fS [0,1] [vS s,vI (w64 (v4 + 2))]) [] H7 (by kernel_rfl) trivial fun _ _ H9 hb => ?_
   replace hS:=hS.below hb
   obtain ⟨z10,hz,hm⟩:=bindE hm
   refine w_cut (fun a' w' => Fr 28 (fS [0,1] [vS s,vI z10]) a' ∧ SH M X w [] w') ?_ ?_
   ·replace hm:=hz
    apply w_block
    refine w_loop (fun kk a' w' => ∃ (v11 : Int),r02_Past_L2 m s kk v11 = some _ ∧ Fr 28 (fS [0,1] [vS s,vI v11]) a' ∧ SH M X w [] w') ⟨_,w64 (v4 + 2),hm,FrG.keep (ks:=[0,1]) H9 (by kernel_rfl),hS⟩ ?_
    clear hm H9 hS
    rintro kk _ _ ⟨v11,hm,H,hS⟩
    cases kk with
    | zero => exact noneE hm
    | succ kk =>
     rw [r02_Past_L2] at hm
     apply w_seq
     obtain ⟨y12,hy12,hm⟩:=bindE hm
     obtain ⟨x13,hx13,hm⟩:=letE hm
     refine s_reg [(vB y12)] [0,1,19] (fS [0,1,19] [vS s,vI v11,vB x13]) [fun wz => ((decide (v11 < (ln s))) = true ∧ True → RetB Tryz.prog 101 ⟨[vS s,vI v11,vS [42,47]]⟩ (vB y12) wz)] H (by subst hx13; kernel_rfl) ⟨fun hg => (r02_has_ok _ _ _ _ (bT (hg.1) hy12)).b,trivial⟩ fun _ _ H15 hb => ?_
     replace hS:=hS.below hb
     refine w_if H15 rfl (fun hc => ?_) (fun hc => ?c18)
     case c18 =>
      replace hm:=bF hc hm
      apply w_exit rfl
      obtain rfl:=someE hm
      exact ⟨FrG.keep (ks:=[0,1]) H15 (by kernel_rfl),hS⟩
     replace hm:=bT hc hm
     apply w_skip
     apply w_block
     refine w_reg [] [0,1] (fS [0,1] [vS s,vI (w64 (v11 + 1))]) [] H15 (by kernel_rfl) trivial fun _ _ H17 hb => ?_
     replace hS:=hS.below hb
     exact ⟨_,Nat.lt_succ_self _,w64 (v11 + 1),hm,FrG.keep (ks:=[0,1]) H17 (by kernel_rfl),hS⟩
   ·rintro _ _ ⟨H,hS⟩
    obtain ⟨x20,hx20,hm⟩:=letE hm
    refine w_reg [] [0,1] (fS [0,1] [vS s,vI x20]) [] H (by subst hx20; kernel_rfl) trivial fun _ _ H22 hb => ?_
    replace hS:=hS.below hb
    exact ⟨_,Nat.lt_succ_self _,x20,hm,FrG.keep (ks:=[0,1]) H22 (by kernel_rfl),hS⟩
 ·rintro _ _ ⟨H,hS⟩
  refine s_reg [] [4] [(4,[],vI z3)] [] H (by kernel_rfl) trivial fun _ _ H27 hb => ?_
  replace hS:=hS.below hb
  apply w_ret
  obtain rfl:=someE hm
  exact retR1 H27 rfl rfl ⟨_,rfl,rfl,(hS.sel [] rfl)⟩
theorem r02_Past_ok  (m : Nat) (s : Str) (i : Int) (r : Int) (hm : r02_Past m s i = some r) : Ret Tryz.prog 91 ⟨[vS s,vI i]⟩ (vI r):=retP_of (Tryz.call91 _) (fun w h => r02_Past_w F0 m   s i r hm w h)

theorem r02_Space_w  (M : Av) (c_ : Int) (r : Bool) (hm : r02_Space c_ = r) (w : World) (hS : S0 M [] w) : Calls Tryz.prog 102 ⟨[vU c_]⟩ w (fun e w' => ∃ v,e = .returned v ∧ v = vB r ∧ SH M (fpl []) w [] w'):=by
 rw [r02_Space] at hm
 have hS0 : SH M (fpl []) w [] w:=hS
 generalize hX : fpl [] = X at hS0 ⊢
 clear hS hX
 have hS:=hS0
 clear hS0
 refine calls_entryP Tryz.func102 rfl Tryz.ntmps102 rfl fun _ H => ?_
 refine s_reg [] [0] [(0,[],vU c_)] [] H (by kernel_rfl) trivial fun _ _ H2 hb => ?_
 replace hS:=hS.below hb
 obtain ⟨x3,hx3,hm⟩:=letE hm
 refine s_reg [] [2] [(2,[],vB x3)] [] H2 (by subst hx3; kernel_rfl) trivial fun _ _ H5 hb => ?_
 replace hS:=hS.below hb
 apply w_ret
 subst hm
 exact retR1 H5 rfl rfl ⟨_,rfl,rfl,(hS.sel [] rfl)⟩
theorem r02_Space_ok  (c_ : Int) : Ret Tryz.prog 102 ⟨[vU c_]⟩ (vB (r02_Space c_)):=retP_of (Tryz.call102 _) (fun w h => r02_Space_w F0   c_ _ rfl w h)

theorem r02_At_w  (M : Av) (s : Str) (i : Int) (r : Int) (hm : r02_At s i = some r) (w : World) (hS : S0 M [] w) : Calls Tryz.prog 120 ⟨[vS s,vI i]⟩ w (fun e w' => ∃ v,e = .returned v ∧ v = vU r ∧ SH M (fpl []) w [] w'):=by
 rw [r02_At] at hm
 have hS0 : SH M (fpl []) w [] w:=hS
 generalize hX : fpl [] = X at hS0 ⊢
 clear hS hX
 have hS:=hS0
 clear hS0
 refine calls_entryP Tryz.func120 rfl Tryz.ntmps120 rfl fun _ H => ?_
 refine s_reg [] [0,1] (fS [0,1] [vS s,vI i]) [] H (by kernel_rfl) trivial fun _ _ H2 hb => ?_
 replace hS:=hS.below hb
 apply w_seq
 refine s_reg [] [0,1,8] (fS [0,1,8] [vS s,vI i,vB (decide (i < (ln s)))]) [] H2 (by kernel_rfl) trivial fun _ _ H4 hb => ?_
 replace hS:=hS.below hb
 refine w_if H4 rfl (fun hc => ?_) (fun hc => ?c10)
 case c10 =>
  replace hm:=bF hc hm
  apply w_skip
  refine s_reg [] [4] [(4,[],vU 0)] [] H4 (by kernel_rfl) trivial fun _ _ H9 hb => ?_
  replace hS:=hS.below hb
  apply w_ret
  obtain rfl:=someE hm
  exact retR1 H9 rfl rfl ⟨_,rfl,rfl,(hS.sel [] rfl)⟩
 replace hm:=bT hc hm
 obtain ⟨ho5,hm⟩:=chkE hm
 refine s_reg [] [4] [(4,[],vU (bat s i))] [fun _ => 0 ≤ i ∧ i < ln s] H4 (by kernel_rfl) ⟨ho5,trivial⟩ fun _ _ H7 hb => ?_
 replace hS:=hS.below hb
 apply w_ret
 obtain rfl:=someE hm
 exact retR1 H7 rfl rfl ⟨_,rfl,rfl,(hS.sel [] rfl)⟩
theorem r02_At_ok  (s : Str) (i : Int) (r : Int) (hm : r02_At s i = some r) : Ret Tryz.prog 120 ⟨[vS s,vI i]⟩ (vU r):=retP_of (Tryz.call120 _) (fun w h => r02_At_w F0   s i r hm w h)

theorem r02_spaces_w  (M : Av) (m : Nat) (s : Str) (i : Int) (r : Int) (hm : r02_spaces m s i = some r) (w : World) (hS : S0 M [] w) : Calls Tryz.prog 103 ⟨[vS s,vI i]⟩ w (fun e w' => ∃ v,e = .returned v ∧ v = vI r ∧ SH M (fpl []) w [] w'):=by
 rw [r02_spaces] at hm
 have hS0 : SH M (fpl []) w [] w:=hS
 generalize hX : fpl [] = X at hS0 ⊢
 clear hS hX
 have hS:=hS0
 clear hS0
 refine calls_entryP Tryz.func103 rfl Tryz.ntmps103 rfl fun _ H => ?_
 refine s_reg [] [0,1] (fS [0,1] [vS s,vI i]) [] H (by kernel_rfl) trivial fun _ _ H2 hb => ?_
 replace hS:=hS.below hb
 obtain ⟨z3,hz,hm⟩:=bindE hm
 refine w_cut (fun a' w' => Fr 12 [(1,[],vI z3)] a' ∧ SH M X w [] w') ?_ ?_
 ·replace hm:=hz
  apply w_block
  refine w_loop (fun kk a' w' => ∃ (v4 : Int),r02_spaces_L1 m s kk v4 = some _ ∧ Fr 12 (fS [0,1] [vS s,vI v4]) a' ∧ SH M X w [] w') ⟨_,i,hm,FrG.keep (ks:=[0,1]) H2 (by kernel_rfl),hS⟩ ?_
  clear hm H2 hS
  rintro kk _ _ ⟨v4,hm,H,hS⟩
  cases kk with
  | zero => exact noneE hm
  | succ kk =>
   rw [r02_spaces_L1] at hm
   apply w_seq
   obtain ⟨y5,hy5,hm⟩:=bindE hm
   refine s_reg [(vU y5),(vB (r02_Space y5))] [0,1,8] (fS [0,1,8] [vS s,vI v4,vB (r02_Space y5)]) [rB 120 [vS s,vI v4] (vU y5),rB 102 [vU y5] (vB (r02_Space y5))] H (by kernel_rfl) ⟨((r02_At_ok _ _ _ hy5).b),((r02_Space_ok _).b),trivial⟩ fun _ _ H7 hb => ?_
   replace hS:=hS.below hb
   refine w_if H7 rfl (fun hc => ?_) (fun hc => ?c10)
   case c10 =>
    replace hm:=bF hc hm
    apply w_exit rfl
    obtain rfl:=someE hm
    exact ⟨FrG.keep (ks:=[1]) H7 (by kernel_rfl),hS⟩
   replace hm:=bT hc hm
   apply w_skip
   apply w_block
   refine w_reg [] [0,1] (fS [0,1] [vS s,vI (w64 (v4 + 1))]) [] H7 (by kernel_rfl) trivial fun _ _ H9 hb => ?_
   replace hS:=hS.below hb
   exact ⟨_,Nat.lt_succ_self _,w64 (v4 + 1),hm,FrG.keep (ks:=[0,1]) H9 (by kernel_rfl),hS⟩
 ·rintro _ _ ⟨H,hS⟩
  refine s_reg [] [4] [(4,[],vI z3)] [] H (by kernel_rfl) trivial fun _ _ H13 hb => ?_
  replace hS:=hS.below hb
  apply w_ret
  obtain rfl:=someE hm
  exact retR1 H13 rfl rfl ⟨_,rfl,rfl,(hS.sel [] rfl)⟩
theorem r02_spaces_ok  (m : Nat) (s : Str) (i : Int) (r : Int) (hm : r02_spaces m s i = some r) : Ret Tryz.prog 103 ⟨[vS s,vI i]⟩ (vI r):=retP_of (Tryz.call103 _) (fun w h => r02_spaces_w F0 m   s i r hm w h)

theorem r02_lost_w  (M : Av)  (r : Str) (hm : r02_lost = r) (w : World) (hS : S0 M [] w) : Calls Tryz.prog 138 ⟨[]⟩ w (fun e w' => ∃ v,e = .returned v ∧ v = vS r ∧ SH M (fpl []) w [] w'):=by
 rw [r02_lost] at hm
 have hS0 : SH M (fpl []) w [] w:=hS
 generalize hX : fpl [] = X at hS0 ⊢
 clear hS hX
 have hS:=hS0
 clear hS0
 refine calls_entryP Tryz.func138 rfl Tryz.ntmps138 rfl fun _ H => ?_
 refine s_reg [] [] [] [] H (by kernel_rfl) trivial fun _ _ H2 hb => ?_
 replace hS:=hS.below hb
 apply w_seq
 apply wl_start
 have hd:=hS.hand [] [] rfl rfl
 refine m_stp [1] [] H2 rfl rfl rfl rfl (o_lit (T:=(tI .u8)) (E:=5) (zv:=vU 0) [vU 239,vU 191,vU 189] kL4 [gL [],gL [],gL []] _ H2 hd rfl (by kernel_rfl) (by kernel_rfl) (by kernel_rfl) (by kernel_rfl) (by kernel_rfl) (by kernel_rfl) (by kernel_rfl) rfl (InnL.cons trivial (InnL.cons trivial (InnL.cons trivial InnL.nil)))) (fun _ => rfl) fun _ _ v H6 hq => ?_
 obtain ⟨g3,rfl,hq⟩:=hq
 replace hS : SH M X w [eO 5 (tI .u8) kL4 g3] _:=hS.join [] [] rfl rfl hq
 refine wl_batch 1 3 [(vS (toB kL4))] [0] [(0,[],vS (toB kL4))] [fun wz => ∀ w',Below wz.heap.size wz w' → (convert 98 9 (vK g3 3)).run Tryz.prog w' = .ok (vS (toB kL4)) w'] H6 (by decide) (by kernel_rfl) ⟨(conv_slG (E:=5) (by kernel_rfl) (by kernel_rfl) (by kernel_rfl) (hS.osl 0 rfl)),trivial⟩ fun _ _ H8 hb => ?_
 replace hS:=hS.below hb
 apply wl_end rfl
 replace hS : SH M X w [] _:=hS.sel [] rfl
 apply w_ret
 subst hm
 exact retR1 H8 rfl rfl ⟨_,rfl,rfl,(hS.sel [] rfl)⟩
theorem r02_lost_ok   : Ret Tryz.prog 138 ⟨[]⟩ (vS r02_lost):=retP_of (Tryz.call138 _) (fun w h => r02_lost_w F0    _ rfl w h)

theorem r02_Digit_w  (M : Av) (c_ : Int) (r : Bool) (hm : r02_Digit c_ = r) (w : World) (hS : S0 M [] w) : Calls Tryz.prog 123 ⟨[vU c_]⟩ w (fun e w' => ∃ v,e = .returned v ∧ v = vB r ∧ SH M (fpl []) w [] w'):=by
 rw [r02_Digit] at hm
 have hS0 : SH M (fpl []) w [] w:=hS
 generalize hX : fpl [] = X at hS0 ⊢
 clear hS hX
 have hS:=hS0
 clear hS0
 refine calls_entryP Tryz.func123 rfl Tryz.ntmps123 rfl fun _ H => ?_
 refine s_reg [] [0] [(0,[],vU c_)] [] H (by kernel_rfl) trivial fun _ _ H2 hb => ?_
 replace hS:=hS.below hb
 obtain ⟨x3,hx3,hm⟩:=letE hm
 refine s_reg [] [2] [(2,[],vB x3)] [] H2 (by subst hx3; kernel_rfl) trivial fun _ _ H5 hb => ?_
 replace hS:=hS.below hb
 apply w_ret
 subst hm
 exact retR1 H5 rfl rfl ⟨_,rfl,rfl,(hS.sel [] rfl)⟩
theorem r02_Digit_ok  (c_ : Int) : Ret Tryz.prog 123 ⟨[vU c_]⟩ (vB (r02_Digit c_)):=retP_of (Tryz.call123 _) (fun w h => r02_Digit_w F0   c_ _ rfl w h)

theorem r01_Small_w  (M : Av) (c_ : Int) (r : Int) (hm : r01_Small c_ = r) (w : World) (hS : S0 M [] w) : Calls Tryz.prog 141 ⟨[vU c_]⟩ w (fun e w' => ∃ v,e = .returned v ∧ v = vU r ∧ SH M (fpl []) w [] w'):=by
 rw [r01_Small] at hm
 have hS0 : SH M (fpl []) w [] w:=hS
 generalize hX : fpl [] = X at hS0 ⊢
 clear hS hX
 have hS:=hS0
 clear hS0
 refine calls_entryP Tryz.func141 rfl Tryz.ntmps141 rfl fun _ H => ?_
 refine s_reg [] [0] [(0,[],vU c_)] [] H (by kernel_rfl) trivial fun _ _ H2 hb => ?_
 replace hS:=hS.below hb
 apply w_seq
 obtain ⟨x3,hx3,hm⟩:=letE hm
 refine s_reg [] [0,8] (fS [0,8] [vU c_,vB x3]) [] H2 (by subst hx3; kernel_rfl) trivial fun _ _ H5 hb => ?_
 replace hS:=hS.below hb
 refine w_if H5 rfl (fun hc => ?c10) (fun hc => ?_)
 case c10 =>
  replace hm:=bT hc hm
  refine s_reg [] [2] [(2,[],vU (wu8 ((wu8 (c_ - 65)) + 97)))] [] H5 (by kernel_rfl) trivial fun _ _ H7 hb => ?_
  replace hS:=hS.below hb
  apply w_ret
  subst hm
  exact retR1 H7 rfl rfl ⟨_,rfl,rfl,(hS.sel [] rfl)⟩
 replace hm:=bF hc hm
 apply w_skip
 refine s_reg [] [2] [(2,[],vU c_)] [] H5 (by kernel_rfl) trivial fun _ _ H9 hb => ?_
 replace hS:=hS.below hb
 apply w_ret
 subst hm
 exact retR1 H9 rfl rfl ⟨_,rfl,rfl,(hS.sel [] rfl)⟩
theorem r01_Small_ok  (c_ : Int) : Ret Tryz.prog 141 ⟨[vU c_]⟩ (vU (r01_Small c_)):=retP_of (Tryz.call141 _) (fun w h => r01_Small_w F0   c_ _ rfl w h)

theorem r02_Hex_w  (M : Av) (c_ : Int) (r : Int) (hm : r02_Hex c_ = r) (w : World) (hS : S0 M [] w) : Calls Tryz.prog 139 ⟨[vU c_]⟩ w (fun e w' => ∃ v,e = .returned v ∧ v = vI r ∧ SH M (fpl []) w [] w'):=by
 rw [r02_Hex] at hm
 have hS0 : SH M (fpl []) w [] w:=hS
 generalize hX : fpl [] = X at hS0 ⊢
 clear hS hX
 have hS:=hS0
 clear hS0
 refine calls_entryP Tryz.func139 rfl Tryz.ntmps139 rfl fun _ H => ?_
 refine s_reg [] [0] [(0,[],vU c_)] [] H (by kernel_rfl) trivial fun _ _ H2 hb => ?_
 replace hS:=hS.below hb
 apply w_seq
 refine s_reg [(vB (r02_Digit c_))] [0,4] (fS [0,4] [vU c_,vB (r02_Digit c_)]) [rB 123 [vU c_] (vB (r02_Digit c_))] H2 (by kernel_rfl) ⟨((r02_Digit_ok _).b),trivial⟩ fun _ _ H4 hb => ?_
 replace hS:=hS.below hb
 refine w_if H4 rfl (fun hc => ?c18) (fun hc => ?_)
 case c18 =>
  replace hm:=bT hc hm
  refine s_reg [] [2] [(2,[],vI (w64 (wu8 (c_ - 48))))] [] H4 (by kernel_rfl) trivial fun _ _ H6 hb => ?_
  replace hS:=hS.below hb
  apply w_ret
  subst hm
  exact retR1 H6 rfl rfl ⟨_,rfl,rfl,(hS.sel [] rfl)⟩
 replace hm:=bF hc hm
 apply w_skip
 refine s_reg [(vU (r01_Small c_))] [0] [(0,[],vU (r01_Small c_))] [rB 141 [vU c_] (vU (r01_Small c_))] H4 (by kernel_rfl) ⟨((r01_Small_ok _).b),trivial⟩ fun _ _ H8 hb => ?_
 replace hS:=hS.below hb
 apply w_seq
 obtain ⟨x9,hx9,hm⟩:=letE hm
 refine s_reg [] [0,15] (fS [0,15] [vU (r01_Small c_),vB x9]) [] H8 (by subst hx9; kernel_rfl) trivial fun _ _ H11 hb => ?_
 replace hS:=hS.below hb
 refine w_if H11 rfl (fun hc => ?_) (fun hc => ?c17)
 case c17 =>
  replace hm:=bF hc hm
  apply w_skip
  refine s_reg [] [2] [(2,[],vI (-1))] [] H11 (by kernel_rfl) trivial fun _ _ H16 hb => ?_
  replace hS:=hS.below hb
  apply w_ret
  subst hm
  exact retR1 H16 rfl rfl ⟨_,rfl,rfl,(hS.sel [] rfl)⟩
 replace hm:=bT hc hm
 obtain ⟨x12,hx12,hm⟩:=letE hm
 refine s_reg [] [2] [(2,[],vI x12)] [] H11 (by subst hx12; kernel_rfl) trivial fun _ _ H14 hb => ?_
 replace hS:=hS.below hb
 apply w_ret
 subst hm
 exact retR1 H14 rfl rfl ⟨_,rfl,rfl,(hS.sel [] rfl)⟩
theorem r02_Hex_ok  (c_ : Int) : Ret Tryz.prog 139 ⟨[vU c_]⟩ (vI (r02_Hex c_)):=retP_of (Tryz.call139 _) (fun w h => r02_Hex_w F0   c_ _ rfl w h)

theorem r02_UTF8_w  (M : Av) (n_ : Int) (r : Str) (hm : r02_UTF8 n_ = r) (w : World) (hS : S0 M [] w) : Calls Tryz.prog 140 ⟨[vI n_]⟩ w (fun e w' => ∃ v,e = .returned v ∧ v = vS r ∧ SH M (fpl []) w [] w'):=by
 rw [r02_UTF8] at hm
 have hS0 : SH M (fpl []) w [] w:=hS
 generalize hX : fpl [] = X at hS0 ⊢
 clear hS hX
 have hS:=hS0
 clear hS0
 refine calls_entryP Tryz.func140 rfl Tryz.ntmps140 rfl fun _ H => ?_
 refine s_reg [] [0] [(0,[],vI n_)] [] H (by kernel_rfl) trivial fun _ _ H2 hb => ?_
 replace hS:=hS.below hb
 apply w_seq
 obtain ⟨x3,hx3,hm⟩:=letE hm
 refine s_reg [] [0,16] (fS [0,16] [vI n_,vB (cond x3 true (decide (1114111 < n_)))]) [] H2 (by subst hx3; kernel_rfl) trivial fun _ _ H5 hb => ?_
 replace hS:=hS.below hb
 refine w_if H5 rfl (fun hc => ?c57) (fun hc => ?_)
 case c57 =>
  replace hm:=bT hc hm
  refine s_reg [(vS r02_lost)] [2] [(2,[],vS r02_lost)] [rB 138 [] (vS r02_lost)] H5 (by kernel_rfl) ⟨((r02_lost_ok ).b),trivial⟩ fun _ _ H7 hb => ?_
  replace hS:=hS.below hb
  apply w_ret
  subst hm
  exact retR1 H7 rfl rfl ⟨_,rfl,rfl,(hS.sel [] rfl)⟩
 replace hm:=bF hc hm
 apply w_skip
 apply w_seq
 refine s_reg [] [0,19] (fS [0,19] [vI n_,vB (decide (n_ < 128))]) [] H5 (by kernel_rfl) trivial fun _ _ H9 hb => ?_
 replace hS:=hS.below hb
 refine w_if H9 rfl (fun hc => ?c56) (fun hc => ?_)
 case c56 =>
  replace hm:=bT hc hm
  apply w_seq
  apply wl_start
  refine wl_batch 0 2 [] [21] [(21,[],vU (wu8 n_))] [] H9 (by decide) (by kernel_rfl) trivial fun _ _ H11 hb => ?_
  replace hS:=hS.below hb
  have hd:=hS.hand [] [] rfl rfl
  refine m_stp [22] [] H11 rfl rfl rfl rfl (o_lit (T:=(tI .u8)) (E:=5) (zv:=vU 0) [vU (wu8 n_)] ([wu8 n_] : List Int) [gL []] _ H11 hd rfl (by kernel_rfl) (by kernel_rfl) (by kernel_rfl) (by kernel_rfl) (by kernel_rfl) (by kernel_rfl) (by kernel_rfl) rfl (InnL.cons trivial InnL.nil)) (fun _ => rfl) fun _ _ v H15 hq => ?_
  obtain ⟨g12,rfl,hq⟩:=hq
  replace hS : SH M X w [eO 5 (tI .u8) ([wu8 n_] : List Int) g12] _:=hS.join [] [] rfl rfl hq
  refine wl_batch 3 5 [(vS (toB ([wu8 n_] : List Int)))] [2] [(2,[],vS (toB ([wu8 n_] : List Int)))] [fun wz => ∀ w',Below wz.heap.size wz w' → (convert 98 9 (vK g12 1)).run Tryz.prog w' = .ok (vS (toB ([wu8 n_] : List Int))) w'] H15 (by decide) (by kernel_rfl) ⟨(conv_slG (E:=5) (by kernel_rfl) (by kernel_rfl) (by kernel_rfl) (hS.osl 0 rfl)),trivial⟩ fun _ _ H17 hb => ?_
  replace hS:=hS.below hb
  apply wl_end rfl
  replace hS : SH M X w [] _:=hS.sel [] rfl
  apply w_ret
  subst hm
  exact retR1 H17 rfl rfl ⟨_,rfl,rfl,(hS.sel [] rfl)⟩
 replace hm:=bF hc hm
 apply w_skip
 apply w_seq
 refine s_reg [] [0,25] (fS [0,25] [vI n_,vB (decide (n_ < 2048))]) [] H9 (by kernel_rfl) trivial fun _ _ H19 hb => ?_
 replace hS:=hS.below hb
 refine w_if H19 rfl (fun hc => ?c55) (fun hc => ?_)
 case c55 =>
  replace hm:=bT hc hm
  apply w_seq
  apply wl_start
  refine wl_batch 0 8 [] [29,33] (fS [29,33] [vU (wu8 (w64 (192 + (w64 (Int.tdiv n_ 64))))),vU (wu8 (w64 (128 + (Int.tmod n_ 64))))]) [fun _ => (64 : Int) ≠ 0,fun _ => (64 : Int) ≠ 0] H19 (by decide) (by kernel_rfl) ⟨(by show (64 : Int) ≠ 0; decide),(by show (64 : Int) ≠ 0; decide),trivial⟩ fun _ _ H21 hb => ?_
  replace hS:=hS.below hb
  have hd:=hS.hand [] [] rfl rfl
  refine m_stp [34] [] H21 rfl rfl rfl rfl (o_lit (T:=(tI .u8)) (E:=5) (zv:=vU 0) [vU (wu8 (w64 (192 + (w64 (Int.tdiv n_ 64))))),vU (wu8 (w64 (128 + (Int.tmod n_ 64))))] ([wu8 (w64 (192 + (w64 (Int.tdiv n_ 64)))),wu8 (w64 (128 + (Int.tmod n_ 64)))] : List Int) [gL [],gL []] _ H21 hd rfl (by kernel_rfl) (by kernel_rfl) (by kernel_rfl) (by kernel_rfl) (by kernel_rfl) (by kernel_rfl) (by kernel_rfl) rfl (InnL.cons trivial (InnL.cons trivial InnL.nil))) (fun _ => rfl) fun _ _ v H25 hq => ?_
  obtain ⟨g22,rfl,hq⟩:=hq
  replace hS : SH M X w [eO 5 (tI .u8) ([wu8 (w64 (192 + (w64 (Int.tdiv n_ 64)))),wu8 (w64 (128 + (Int.tmod n_ 64)))] : List Int) g22] _:=hS.join [] [] rfl rfl hq
  obtain ⟨x26,hx26,hm⟩:=letE hm
  refine wl_batch 9 11 [(vS (toB ([wu8 (w64 (192 + (w64 (Int.tdiv n_ 64)))),wu8 (w64 (128 + (Int.tmod n_ 64)))] : List Int)))] [2] [(2,[],vS x26)] [fun wz => ∀ w',Below wz.heap.size wz w' → (convert 98 9 (vK g22 2)).run Tryz.prog w' = .ok (vS (toB ([wu8 (w64 (192 + (w64 (Int.tdiv n_ 64)))),wu8 (w64 (128 + (Int.tmod n_ 64)))] : List Int))) w'] H25 (by decide) (by subst hx26; kernel_rfl) ⟨(conv_slG (E:=5) (by kernel_rfl) (by kernel_rfl) (by kernel_rfl) (hS.osl 0 rfl)),trivial⟩ fun _ _ H28 hb => ?_
  replace hS:=hS.below hb
  apply wl_end rfl
  replace hS : SH M X w [] _:=hS.sel [] rfl
  apply w_ret
  subst hm
  exact retR1 H28 rfl rfl ⟨_,rfl,rfl,(hS.sel [] rfl)⟩
 replace hm:=bF hc hm
 apply w_skip
 apply w_seq
 refine s_reg [] [0,37] (fS [0,37] [vI n_,vB (decide (n_ < 65536))]) [] H19 (by kernel_rfl) trivial fun _ _ H30 hb => ?_
 replace hS:=hS.below hb
 refine w_if H30 rfl (fun hc => ?c54) (fun hc => ?_)
 case c54 =>
  replace hm:=bT hc hm
  apply w_seq
  apply wl_start
  obtain ⟨x31,hx31,hm⟩:=letE hm
  obtain ⟨x32,hx32,hm⟩:=letE hm
  refine wl_batch 0 13 [] [41,46,50] (fS [41,46,50] [vU x31,vU (wu8 x32),vU (wu8 (w64 (128 + (Int.tmod n_ 64))))]) [fun _ => (4096 : Int) ≠ 0,fun _ => (64 : Int) ≠ 0,fun _ => (64 : Int) ≠ 0,fun _ => (64 : Int) ≠ 0] H30 (by decide) (by subst hx31 hx32; kernel_rfl) ⟨(by show (4096 : Int) ≠ 0; decide),(by show (64 : Int) ≠ 0; decide),(by show (64 : Int) ≠ 0; decide),(by show (64 : Int) ≠ 0; decide),trivial⟩ fun _ _ H34 hb => ?_
  replace hS:=hS.below hb
  have hd:=hS.hand [] [] rfl rfl
  refine m_stp [51] [] H34 rfl rfl rfl rfl (o_lit (T:=(tI .u8)) (E:=5) (zv:=vU 0) [vU x31,vU (wu8 x32),vU (wu8 (w64 (128 + (Int.tmod n_ 64))))] ([x31,wu8 x32,wu8 (w64 (128 + (Int.tmod n_ 64)))] : List Int) [gL [],gL [],gL []] _ H34 hd rfl (by kernel_rfl) (by kernel_rfl) (by kernel_rfl) (by kernel_rfl) (by kernel_rfl) (by kernel_rfl) (by kernel_rfl) rfl (InnL.cons trivial (InnL.cons trivial (InnL.cons trivial InnL.nil)))) (fun _ => rfl) fun _ _ v H38 hq => ?_
  obtain ⟨g35,rfl,hq⟩:=hq
  replace hS : SH M X w [eO 5 (tI .u8) ([x31,wu8 x32,wu8 (w64 (128 + (Int.tmod n_ 64)))] : List Int) g35] _:=hS.join [] [] rfl rfl hq
  obtain ⟨x39,hx39,hm⟩:=letE hm
  refine wl_batch 14 16 [(vS (toB ([x31,wu8 x32,wu8 (w64 (128 + (Int.tmod n_ 64)))] : List Int)))] [2] [(2,[],vS x39)] [fun wz => ∀ w',Below wz.heap.size wz w' → (convert 98 9 (vK g35 3)).run Tryz.prog w' = .ok (vS (toB ([x31,wu8 x32,wu8 (w64 (128 + (Int.tmod n_ 64)))] : List Int))) w'] H38 (by decide) (by subst hx39; kernel_rfl) ⟨(conv_slG (E:=5) (by kernel_rfl) (by kernel_rfl) (by kernel_rfl) (hS.osl 0 rfl)),trivial⟩ fun _ _ H41 hb => ?_
  replace hS:=hS.below hb
  apply wl_end rfl
  replace hS : SH M X w [] _:=hS.sel [] rfl
  apply w_ret
  subst hm
  exact retR1 H41 rfl rfl ⟨_,rfl,rfl,(hS.sel [] rfl)⟩
 replace hm:=bF hc hm
 apply w_skip
 apply w_seq
 apply wl_start
 obtain ⟨x42,hx42,hm⟩:=letE hm
 obtain ⟨x43,hx43,hm⟩:=letE hm
 obtain ⟨x44,hx44,hm⟩:=letE hm
 refine wl_batch 0 18 [] [56,61,66,70] (fS [56,61,66,70] [vU x42,vU (wu8 x43),vU (wu8 x44),vU (wu8 (w64 (128 + (Int.tmod n_ 64))))]) [fun _ => (262144 : Int) ≠ 0,fun _ => (4096 : Int) ≠ 0,fun _ => (64 : Int) ≠ 0,fun _ => (64 : Int) ≠ 0,fun _ => (64 : Int) ≠ 0,fun _ => (64 : Int) ≠ 0] H30 (by decide) (by subst hx42 hx43 hx44; kernel_rfl) ⟨(by show (262144 : Int) ≠ 0; decide),(by show (4096 : Int) ≠ 0; decide),(by show (64 : Int) ≠ 0; decide),(by show (64 : Int) ≠ 0; decide),(by show (64 : Int) ≠ 0; decide),(by show (64 : Int) ≠ 0; decide),trivial⟩ fun _ _ H46 hb => ?_
 replace hS:=hS.below hb
 have hd:=hS.hand [] [] rfl rfl
 refine m_stp [71] [] H46 rfl rfl rfl rfl (o_lit (T:=(tI .u8)) (E:=5) (zv:=vU 0) [vU x42,vU (wu8 x43),vU (wu8 x44),vU (wu8 (w64 (128 + (Int.tmod n_ 64))))] ([x42,wu8 x43,wu8 x44,wu8 (w64 (128 + (Int.tmod n_ 64)))] : List Int) [gL [],gL [],gL [],gL []] _ H46 hd rfl (by kernel_rfl) (by kernel_rfl) (by kernel_rfl) (by kernel_rfl) (by kernel_rfl) (by kernel_rfl) (by kernel_rfl) rfl (InnL.cons trivial (InnL.cons trivial (InnL.cons trivial (InnL.cons trivial InnL.nil))))) (fun _ => rfl) fun _ _ v H50 hq => ?_
 obtain ⟨g47,rfl,hq⟩:=hq
 replace hS : SH M X w [eO 5 (tI .u8) ([x42,wu8 x43,wu8 x44,wu8 (w64 (128 + (Int.tmod n_ 64)))] : List Int) g47] _:=hS.join [] [] rfl rfl hq
 obtain ⟨x51,hx51,hm⟩:=letE hm
 refine wl_batch 19 21 [(vS (toB ([x42,wu8 x43,wu8 x44,wu8 (w64 (128 + (Int.tmod n_ 64)))] : List Int)))] [2] [(2,[],vS x51)] [fun wz => ∀ w',Below wz.heap.size wz w' → (convert 98 9 (vK g47 4)).run Tryz.prog w' = .ok (vS (toB ([x42,wu8 x43,wu8 x44,wu8 (w64 (128 + (Int.tmod n_ 64)))] : List Int))) w'] H50 (by decide) (by subst hx51; kernel_rfl) ⟨(conv_slG (E:=5) (by kernel_rfl) (by kernel_rfl) (by kernel_rfl) (hS.osl 0 rfl)),trivial⟩ fun _ _ H53 hb => ?_
 replace hS:=hS.below hb
 apply wl_end rfl
 replace hS : SH M X w [] _:=hS.sel [] rfl
 apply w_ret
 subst hm
 exact retR1 H53 rfl rfl ⟨_,rfl,rfl,(hS.sel [] rfl)⟩
theorem r02_UTF8_ok  (n_ : Int) : Ret Tryz.prog 140 ⟨[vI n_]⟩ (vS (r02_UTF8 n_)):=retP_of (Tryz.call140 _) (fun w h => r02_UTF8_w F0   n_ _ rfl w h)

theorem r02_Escaped_w  (M : Av) (m : Nat) (s : Str) (i : Int) (r : Str × Int) (hm : r02_Escaped m s i = some r) (w : World) (hS : S0 M [] w) : Calls Tryz.prog 121 ⟨[vS s,vI i]⟩ w (fun e w' => ∃ v,e = .returned v ∧ v = vW [vS r.1,vI r.2] ∧ SH M (fpl []) w [] w'):=by
 rw [r02_Escaped] at hm
 have hS0 : SH M (fpl []) w [] w:=hS
 generalize hX : fpl [] = X at hS0 ⊢
 clear hS hX
 have hS:=hS0
 clear hS0
 refine calls_entryP Tryz.func121 rfl Tryz.ntmps121 rfl fun _ H => ?_
 refine s_reg [] [0,1] (fS [0,1] [vS s,vI i]) [] H (by kernel_rfl) trivial fun _ _ H2 hb => ?_
 replace hS:=hS.below hb
 refine s_reg [] [0,1] (fS [0,1] [vS s,vI (w64 (i + 1))]) [] H2 (by kernel_rfl) trivial fun _ _ H4 hb => ?_
 replace hS:=hS.below hb
 apply w_seq
 refine s_reg [] [0,1,13] (fS [0,1,13] [vS s,vI (w64 (i + 1)),vB (decide ((ln s) ≤ (w64 (i + 1))))]) [] H4 (by kernel_rfl) trivial fun _ _ H6 hb => ?_
 replace hS:=hS.below hb
 refine w_if H6 rfl (fun hc => ?c47) (fun hc => ?_)
 case c47 =>
  replace hm:=bT hc hm
  refine s_reg [(vS r02_lost)] [4,5] (fS [4,5] [vS r02_lost,vI (w64 (i + 1))]) [rB 138 [] (vS r02_lost)] H6 (by kernel_rfl) ⟨((r02_lost_ok ).b),trivial⟩ fun _ _ H8 hb => ?_
  replace hS:=hS.below hb
  apply w_ret
  obtain rfl:=someE hm
  exact retR2 H8 rfl rfl rfl ⟨_,rfl,rfl,(hS.sel [] rfl)⟩
 replace hm:=bF hc hm
 apply w_skip
 apply w_seq
 obtain ⟨ho9,hm⟩:=chkE hm
 obtain ⟨x10,hx10,hm⟩:=letE hm
 refine s_reg [(vI (r02_Hex (bat s (w64 (i + 1)))))] [0,1,20] (fS [0,1,20] [vS s,vI (w64 (i + 1)),vB x10]) [fun _ => 0 ≤ (w64 (i + 1)) ∧ (w64 (i + 1)) < ln s,rB 139 [vU (bat s (w64 (i + 1)))] (vI (r02_Hex (bat s (w64 (i + 1)))))] H6 (by subst hx10; kernel_rfl) ⟨ho9,((r02_Hex_ok _).b),trivial⟩ fun _ _ H12 hb => ?_
 replace hS:=hS.below hb
 refine w_if H12 rfl (fun hc => ?c46) (fun hc => ?_)
 case c46 =>
  replace hm:=bT hc hm
  obtain ⟨ho13,hm⟩:=chkE hm
  obtain ⟨x14,hx14,hm⟩:=letE hm
  refine s_reg [] [4,5] (fS [4,5] [vS x14,vI (w64 ((w64 (i + 1)) + 1))]) [fun _ => 0 ≤ (w64 (i + 1)) ∧ (w64 (i + 1)) ≤ (w64 ((w64 (i + 1)) + 1)) ∧ (w64 ((w64 (i + 1)) + 1)) ≤ ln s] H12 (by subst hx14; kernel_rfl) ⟨ho13,trivial⟩ fun _ _ H16 hb => ?_
  replace hS:=hS.below hb
  apply w_ret
  obtain rfl:=someE hm
  exact retR2 H16 rfl rfl rfl ⟨_,rfl,rfl,(hS.sel [] rfl)⟩
 replace hm:=bF hc hm
 apply w_skip
 refine s_reg [] [0,1,6,7] (fS [0,1,6,7] [vS s,vI (w64 (i + 1)),vI 0,vI (w64 (i + 1))]) [] H12 (by kernel_rfl) trivial fun _ _ H18 hb => ?_
 replace hS:=hS.below hb
 obtain ⟨z19,hz,hm⟩:=bindE hm
 refine w_cut (fun a' w' => Fr 64 (fS [0,6,7] [vS s,vI z19.1,vI z19.2]) a' ∧ SH M X w [] w') ?_ ?_
 ·replace hm:=hz
  apply w_block
  refine w_loop (fun kk a' w' => ∃ (v20 : Int) (v21 : Int),r02_Escaped_L1 m s i kk v20 v21 = some _ ∧ Fr 64 (fS [0,1,6,7] [vS s,vI (w64 (i + 1)),vI v20,vI v21]) a' ∧ SH M X w [] w') ⟨_,0,w64 (i + 1),hm,FrG.keep (ks:=[0,1,6,7]) H18 (by kernel_rfl),hS⟩ ?_
  clear hm H18 hS
  rintro kk _ _ ⟨v20,v21,hm,H,hS⟩
  cases kk with
  | zero => exact noneE hm
  | succ kk =>
   rw [r02_Escaped_L1] at hm
   apply w_seq
   obtain ⟨x22,hx22,hm⟩:=letE hm
   obtain ⟨ho23,hm⟩:=chkE hm
   obtain ⟨x24,hx24,hm⟩:=letE hm
   refine s_reg [(vI (r02_Hex (bat s v21)))] [0,1,6,7,45] (fS [0,1,6,7,45] [vS s,vI (w64 (i + 1)),vI v20,vI v21,vB x24]) [fun _ => (x22 = true ∧ True → 0 ≤ v21 ∧ v21 < ln s),fun wz => (x22 = true ∧ True → RetB Tryz.prog 139 ⟨[vU (bat s v21)]⟩ (vI (r02_Hex (bat s v21))) wz)] H (by subst hx22 hx24; kernel_rfl) ⟨fun hg => (ho23 hg.1),fun hg => (r02_Hex_ok _).b,trivial⟩ fun _ _ H26 hb => ?_
   replace hS:=hS.below hb
   refine w_if H26 rfl (fun hc => ?_) (fun hc => ?c33)
   case c33 =>
    replace hm:=bF hc hm
    apply w_exit rfl
    obtain rfl:=someE hm
    exact ⟨FrG.keep (ks:=[0,6,7]) H26 (by kernel_rfl),hS⟩
   replace hm:=bT hc hm
   apply w_skip
   apply w_block
   obtain ⟨ho27,hm⟩:=chkE hm
   obtain ⟨x28,hx28,hm⟩:=letE hm
   refine s_reg [(vI (r02_Hex (bat s v21)))] [0,1,6,7] (fS [0,1,6,7] [vS s,vI (w64 (i + 1)),vI x28,vI v21]) [fun _ => 0 ≤ v21 ∧ v21 < ln s,rB 139 [vU (bat s v21)] (vI (r02_Hex (bat s v21)))] H26 (by subst hx28; kernel_rfl) ⟨ho27,((r02_Hex_ok _).b),trivial⟩ fun _ _ H30 hb => ?_
   replace hS:=hS.below hb
   refine w_reg [] [0,1,6,7] (fS [0,1,6,7] [vS s,vI (w64 (i + 1)),vI x28,vI (w64 (v21 + 1))]) [] H30 (by kernel_rfl) trivial fun _ _ H32 hb => ?_
   replace hS:=hS.below hb
   exact ⟨_,Nat.lt_succ_self _,x28,w64 (v21 + 1),hm,FrG.keep (ks:=[0,1,6,7]) H32 (by kernel_rfl),hS⟩
 ·rintro _ _ ⟨H,hS⟩
  obtain ⟨z35,hz,hm⟩:=bindE hm
  refine w_cut (fun a' w' => Fr 64 (fS [6,7] [vI z19.1,vI z35]) a' ∧ SH M X w [] w') ?_ ?_
  ·replace hm:=hz
   obtain ⟨y36,hy36,hm⟩:=bindE hm
   refine s_reg [(vU y36),(vB (r02_Space y36))] [6,7,58] (fS [6,7,58] [vI z19.1,vI z19.2,vB (r02_Space y36)]) [rB 120 [vS s,vI z19.2] (vU y36),rB 102 [vU y36] (vB (r02_Space y36))] H (by kernel_rfl) ⟨((r02_At_ok _ _ _ hy36).b),((r02_Space_ok _).b),trivial⟩ fun _ _ H38 hb => ?_
   replace hS:=hS.below hb
   refine w_if H38 rfl (fun hc => ?_) (fun hc => ?c41)
   case c41 =>
    replace hm:=bF hc hm
    apply w_skip
    obtain rfl:=someE hm
    exact ⟨FrG.keep (ks:=[6,7]) H38 (by kernel_rfl),hS⟩
   replace hm:=bT hc hm
   refine w_reg [] [6,7] (fS [6,7] [vI z19.1,vI (w64 (z19.2 + 1))]) [] H38 (by kernel_rfl) trivial fun _ _ H40 hb => ?_
   replace hS:=hS.below hb
   obtain rfl:=someE hm
   exact ⟨FrG.keep (ks:=[6,7]) H40 (by kernel_rfl),hS⟩
  ·rintro _ _ ⟨H,hS⟩
   refine s_reg [(vS (r02_UTF8 z19.1))] [4,5] (fS [4,5] [vS (r02_UTF8 z19.1),vI z35]) [rB 140 [vI z19.1] (vS (r02_UTF8 z19.1))] H (by kernel_rfl) ⟨((r02_UTF8_ok _).b),trivial⟩ fun _ _ H43 hb => ?_
   replace hS:=hS.below hb
   apply w_ret
   obtain rfl:=someE hm
   exact retR2 H43 rfl rfl rfl ⟨_,rfl,rfl,(hS.sel [] rfl)⟩
theorem r02_Escaped_ok  (m : Nat) (s : Str) (i : Int) (r : Str × Int) (hm : r02_Escaped m s i = some r) : Ret Tryz.prog 121 ⟨[vS s,vI i]⟩ (vW [vS r.1,vI r.2]):=retP_of (Tryz.call121 _) (fun w h => r02_Escaped_w F0 m   s i r hm w h)

theorem r02_quoted_w  (M : Av) (m : Nat) (s : Str) (i : Int) (r : TToken × Int) (hm : r02_quoted m s i = some r) (w : World) (hS : S0 M [] w) : Calls Tryz.prog 104 ⟨[vS s,vI i]⟩ w (fun e w' => ∃ v,e = .returned v ∧ v = vW [vG (cT r.1),vI r.2] ∧ SH M (fpl []) w [] w'):=by
 rw [r02_quoted] at hm
 have hS0 : SH M (fpl []) w [] w:=hS
 generalize hX : fpl [] = X at hS0 ⊢
 clear hS hX
 have hS:=hS0
 clear hS0
 refine calls_entryP Tryz.func104 rfl Tryz.ntmps104 rfl fun _ H => ?_
 apply w_seq
 apply wl_start
 have hd:=hS.hand [] [] rfl rfl
 refine m_stp [4,0,1] (fS [0,1] [vS s,vI i]) H rfl rfl rfl rfl (o_alloc [vU 0,vN,vI 0,vN,vF] (z:=vG [vU 0,vN,vI 0,vN,vF]) hd (by kernel_rfl) rfl) (fun _ => rfl) fun _ _ v H3 hq => ?_
 obtain ⟨b1,rfl,hq⟩:=hq
 replace hS : SH M X w [eB b1 [vU 0,vN,vI 0,vN,vF]] _:=hS.join [] [] rfl rfl hq
 refine wl_batch 1 2 [] [0,1,4] (fS [0,1,4] [vS s,vI i,vP b1]) [] H3 (by decide) (by kernel_rfl) trivial fun _ _ H5 hb => ?_
 replace hS:=hS.below hb
 apply wl_end rfl
 obtain ⟨ho6,hm⟩:=chkE hm
 refine s_reg [] [0,1,4,6] (fS [0,1,4,6] [vS s,vI i,vP b1,vU (bat s i)]) [fun _ => 0 ≤ i ∧ i < ln s] H5 (by kernel_rfl) ⟨ho6,trivial⟩ fun _ _ H8 hb => ?_
 replace hS:=hS.below hb
 apply w_seq
 apply wl_start
 refine wl_batch 0 1 [] [0,1,4,6,13] (fS [0,1,4,6,13] [vS s,vI i,vP b1,vU (bat s i),vG [vU 5,vN,vI 0,vN,vF]]) [] H8 (by decide) (by kernel_rfl) trivial fun _ _ H10 hb => ?_
 replace hS:=hS.below hb
 have hd:=hS.hand [] [0] rfl rfl
 refine m_stp [7,0,1,4,6,13] (fS [0,1,4,6,13] [vS s,vI i,vP b1,vU (bat s i),vG [vU 5,vN,vI 0,vN,vF]]) H10 rfl rfl rfl rfl (o_alloc [vU 0,vN,vI 0,vN,vF] (z:=vG [vU 0,vN,vI 0,vN,vF]) hd (by kernel_rfl) rfl) (fun _ => rfl) fun _ _ v H13 hq => ?_
 obtain ⟨b11,rfl,hq⟩:=hq
 replace hS : SH M X w [eB b11 [vU 0,vN,vI 0,vN,vF],eB b1 [vU 0,vN,vI 0,vN,vF]] _:=hS.join [] [0] rfl rfl hq
 have hd:=hS.hand [0] [1] rfl rfl
 refine m_stp0 [0,1,4,6,7] (fS [0,1,4,6,7] [vS s,vI i,vP b1,vU (bat s i),vP b11]) H13 rfl rfl rfl (o_store [vU 5,vN,vI 0,vN,vF] H13 hd rfl rfl (by kernel_rfl) rfl rfl rfl) rfl fun _ _ H15 hq => ?_
 obtain ⟨_,hq⟩:=hq
 replace hS : SH M X w [eB b11 [vU 5,vN,vI 0,vN,vF],eB b1 [vU 0,vN,vI 0,vN,vF]] _:=hS.join [0] [1] rfl rfl hq
 apply wl_end rfl
 obtain ⟨z16,hz,hm_z16⟩:=bindE hm
 refine w_cut (fun a' w' => ∃ s_z16 : Int × Str,z16 = Sum.inr s_z16 ∧ Fr 94 (fS [4,7,1] [vP b1,vP b11,vI s_z16.1]) a' ∧ SH M X w [eB b11 [vU 5,vS s_z16.2,vI 0,vN,vF],eB b1 [vU 0,vN,vI 0,vN,vF]] w') ?_ ?_
 ·replace hm:=hz
  refine s_reg [] [0,1,4,6,7] (fS [0,1,4,6,7] [vS s,vI (w64 (i + 1)),vP b1,vU (bat s i),vP b11]) [] H15 (by kernel_rfl) trivial fun _ _ H18 hb => ?_
  replace hS:=hS.below hb
  apply w_block
  refine w_loop (fun kk a' w' => ∃ (v19 : Int) (v20 : Str),r02_quoted_L1 m s i kk v19 v20 = some _ ∧ Fr 94 (fS [0,4,6,7,1] [vS s,vP b1,vU (bat s i),vP b11,vI v19]) a' ∧ SH M X w [eB b11 [vU 5,vS v20,vI 0,vN,vF],eB b1 [vU 0,vN,vI 0,vN,vF]] w') ⟨_,w64 (i + 1),[],hm,FrG.keep (ks:=[0,4,6,7,1]) H18 (by kernel_rfl),hS⟩ ?_
  clear hm H18 hS
  rintro kk _ _ ⟨v19,v20,hm,H,hS⟩
  cases kk with
  | zero => exact noneE hm
  | succ kk =>
   rw [r02_quoted_L1] at hm
   apply w_seq
   refine s_reg [] [0,1,4,6,7,19] (fS [0,1,4,6,7,19] [vS s,vI v19,vP b1,vU (bat s i),vP b11,vB (decide (v19 < (ln s)))]) [] H (by kernel_rfl) trivial fun _ _ H22 hb => ?_
   replace hS:=hS.below hb
   refine w_if H22 rfl (fun hc => ?_) (fun hc => ?c76)
   case c76 =>
    replace hm:=bF hc hm
    apply w_exit rfl
    obtain rfl:=someE hm
    exact ⟨_,rfl,FrG.keep (ks:=[4,7,1]) H22 (by kernel_rfl),hS⟩
   replace hm:=bT hc hm
   apply w_skip
   apply w_block
   apply w_block
   obtain ⟨ho23,hm⟩:=chkE hm
   refine s_reg [] [0,1,4,6,7,31] (fS [0,1,4,6,7,31] [vS s,vI v19,vP b1,vU (bat s i),vP b11,vB ((bat s v19) == (bat s i))]) [fun _ => 0 ≤ v19 ∧ v19 < ln s] H22 (by kernel_rfl) ⟨ho23,trivial⟩ fun _ _ H25 hb => ?_
   replace hS:=hS.below hb
   refine w_if H25 rfl (fun hc => ?c75) (fun hc => ?_)
   case c75 =>
    replace hm:=bT hc hm
    apply w_seq
    apply wl_start
    refine wl_batch 0 3 [(vG [vU 5,vS v20,vI 0,vN,vF])] [4,37,39] (fS [4,37,39] [vP b1,vG [vU 5,vS v20,vI 0,vN,vF],vI (w64 (v19 + 1))]) [rN b11 0 [vU 5,vS v20,vI 0,vN,vF]] H25 (by decide) (by kernel_rfl) ⟨((hS.bk 0 rfl).atD rfl),trivial⟩ fun _ _ H27 hb => ?_
    replace hS:=hS.below hb
    have hd:=hS.hand [1] [0] rfl rfl
    refine m_stp0 [4,39] (fS [4,39] [vP b1,vI (w64 (v19 + 1))]) H27 rfl rfl rfl (o_store [vU 5,vS v20,vI 0,vN,vF] H27 hd rfl rfl (by kernel_rfl) rfl rfl rfl) rfl fun _ _ H29 hq => ?_
    obtain ⟨_,hq⟩:=hq
    replace hS : SH M X w [eB b1 [vU 5,vS v20,vI 0,vN,vF],eB b11 [vU 5,vS v20,vI 0,vN,vF]] _:=hS.join [1] [0] rfl rfl hq
    refine wl_batch 4 5 [] [4,5] (fS [4,5] [vP b1,vI (w64 (v19 + 1))]) [] H29 (by decide) (by kernel_rfl) trivial fun _ _ H31 hb => ?_
    replace hS:=hS.below hb
    apply wl_end rfl
    apply w_ret
    obtain rfl:=someE hm
    have hm:=hm_z16
    obtain rfl:=someE hm
    exact retR2 H31 rfl (oneRes_agg rfl (hS.bk 0 rfl) Tryz.underlying49 rfl (by kernel_rfl)) rfl ⟨_,rfl,rfl,(hS.sel [] rfl)⟩
   replace hm:=bF hc hm
   refine s_reg [] [0,1,4,6,7,40] (fS [0,1,4,6,7,40] [vS s,vI v19,vP b1,vU (bat s i),vP b11,vB ((bat s v19) == 10)]) [fun _ => 0 ≤ v19 ∧ v19 < ln s] H25 (by kernel_rfl) ⟨ho23,trivial⟩ fun _ _ H33 hb => ?_
   replace hS:=hS.below hb
   refine w_if H33 rfl (fun hc => ?c74) (fun hc => ?_)
   case c74 =>
    replace hm:=bT hc hm
    apply w_seq
    apply wl_start
    refine wl_batch 0 2 [] [4,45,46] (fS [4,45,46] [vP b1,vG [vU 6,vN,vI 0,vN,vF],vI v19]) [] H33 (by decide) (by kernel_rfl) trivial fun _ _ H35 hb => ?_
    replace hS:=hS.below hb
    have hd:=hS.hand [1] [0] rfl rfl
    refine m_stp0 [4,46] (fS [4,46] [vP b1,vI v19]) H35 rfl rfl rfl (o_store [vU 6,vN,vI 0,vN,vF] H35 hd rfl rfl (by kernel_rfl) rfl rfl rfl) rfl fun _ _ H37 hq => ?_
    obtain ⟨_,hq⟩:=hq
    replace hS : SH M X w [eB b1 [vU 6,vN,vI 0,vN,vF],eB b11 [vU 5,vS v20,vI 0,vN,vF]] _:=hS.join [1] [0] rfl rfl hq
    refine wl_batch 3 4 [] [4,5] (fS [4,5] [vP b1,vI v19]) [] H37 (by decide) (by kernel_rfl) trivial fun _ _ H39 hb => ?_
    replace hS:=hS.below hb
    apply wl_end rfl
    apply w_ret
    obtain rfl:=someE hm
    have hm:=hm_z16
    obtain rfl:=someE hm
    exact retR2 H39 rfl (oneRes_agg rfl (hS.bk 0 rfl) Tryz.underlying49 rfl (by kernel_rfl)) rfl ⟨_,rfl,rfl,(hS.sel [] rfl)⟩
   replace hm:=bF hc hm
   obtain ⟨x40,hx40,hm⟩:=letE hm
   refine s_reg [] [0,1,4,6,7,47] (fS [0,1,4,6,7,47] [vS s,vI v19,vP b1,vU (bat s i),vP b11,vB x40]) [fun _ => 0 ≤ v19 ∧ v19 < ln s] H33 (by subst hx40; kernel_rfl) ⟨ho23,trivial⟩ fun _ _ H42 hb => ?_
   replace hS:=hS.below hb
   refine w_if H42 rfl (fun hc => ?c73) (fun hc => ?_)
   case c73 =>
    replace hm:=bT hc hm
    refine w_reg [] [0,1,4,6,7] (fS [0,1,4,6,7] [vS s,vI (w64 (v19 + 1)),vP b1,vU (bat s i),vP b11]) [] H42 (by kernel_rfl) trivial fun _ _ H44 hb => ?_
    replace hS:=hS.below hb
    exact ⟨_,Nat.lt_succ_self _,w64 (v19 + 1),v20,hm,FrG.keep (ks:=[0,4,6,7,1]) H44 (by kernel_rfl),hS⟩
   replace hm:=bF hc hm
   obtain ⟨ho45,hm⟩:=chkE hm
   obtain ⟨x46,hx46,hm⟩:=letE hm
   refine s_reg [] [0,1,4,6,7,61] (fS [0,1,4,6,7,61] [vS s,vI v19,vP b1,vU (bat s i),vP b11,vB x46]) [fun _ => 0 ≤ v19 ∧ v19 < ln s,fun _ => (((bat s v19) == 92) = true ∧ True → 0 ≤ (w64 (v19 + 1)) ∧ (w64 (v19 + 1)) < ln s)] H42 (by subst hx46; kernel_rfl) ⟨ho23,fun hg => (ho45 hg.1),trivial⟩ fun _ _ H48 hb => ?_
   replace hS:=hS.below hb
   refine w_if H48 rfl (fun hc => ?c72) (fun hc => ?_)
   case c72 =>
    replace hm:=bT hc hm
    refine w_reg [] [0,1,4,6,7] (fS [0,1,4,6,7] [vS s,vI (w64 (v19 + 2)),vP b1,vU (bat s i),vP b11]) [] H48 (by kernel_rfl) trivial fun _ _ H50 hb => ?_
    replace hS:=hS.below hb
    exact ⟨_,Nat.lt_succ_self _,w64 (v19 + 2),v20,hm,FrG.keep (ks:=[0,4,6,7,1]) H50 (by kernel_rfl),hS⟩
   replace hm:=bF hc hm
   refine s_reg [] [0,1,4,6,7,75] (fS [0,1,4,6,7,75] [vS s,vI v19,vP b1,vU (bat s i),vP b11,vB ((bat s v19) == 92)]) [fun _ => 0 ≤ v19 ∧ v19 < ln s] H48 (by kernel_rfl) ⟨ho23,trivial⟩ fun _ _ H52 hb => ?_
   replace hS:=hS.below hb
   refine w_if H52 rfl (fun hc => ?c71) (fun hc => ?_)
   case c71 =>
    replace hm:=bT hc hm
    obtain ⟨y53,hy53,hm⟩:=bindE hm
    refine s_reg [(vW [vS y53.1,vI y53.2])] [0,4,6,7,8,9] (fS [0,4,6,7,8,9] [vS s,vP b1,vU (bat s i),vP b11,vS y53.1,vI y53.2]) [rB 121 [vS s,vI v19] (vW [vS y53.1,vI y53.2])] H52 (by kernel_rfl) ⟨((r02_Escaped_ok m _ _ _ hy53).b),trivial⟩ fun _ _ H55 hb => ?_
    replace hS:=hS.below hb
    apply w_seq
    apply wl_start
    obtain ⟨ho56,hm⟩:=chkE hm
    refine wl_batch 0 5 [(vS v20)] [0,4,6,7,9,89,90] (fS [0,4,6,7,9,89,90] [vS s,vP b1,vU (bat s i),vP b11,vI y53.2,vS (v20 ++ y53.1),vA b11 1]) [rA b11 1 (vS v20),fun _ => ln v20 + ln y53.1 ≤ 9223372036854775807] H55 (by decide) (by kernel_rfl) ⟨((hS.bk 0 rfl).at1 rfl),ho56,trivial⟩ fun _ _ H58 hb => ?_
    replace hS:=hS.below hb
    have hd:=hS.hand [0] [1] rfl rfl
    refine m_stp0 [0,4,6,7,9] (fS [0,4,6,7,9] [vS s,vP b1,vU (bat s i),vP b11,vI y53.2]) H58 rfl rfl rfl (o_store [vU 5,vS (v20 ++ y53.1),vI 0,vN,vF] H58 hd rfl rfl (by kernel_rfl) rfl rfl rfl) rfl fun _ _ H60 hq => ?_
    obtain ⟨_,hq⟩:=hq
    replace hS : SH M X w [eB b11 [vU 5,vS (v20 ++ y53.1),vI 0,vN,vF],eB b1 [vU 0,vN,vI 0,vN,vF]] _:=hS.join [0] [1] rfl rfl hq
    apply wl_end rfl
    refine w_reg [] [0,1,4,6,7] (fS [0,1,4,6,7] [vS s,vI y53.2,vP b1,vU (bat s i),vP b11]) [] H60 (by kernel_rfl) trivial fun _ _ H62 hb => ?_
    replace hS:=hS.below hb
    exact ⟨_,Nat.lt_succ_self _,y53.2,v20 ++ y53.1,hm,FrG.keep (ks:=[0,4,6,7,1]) H62 (by kernel_rfl),hS⟩
   replace hm:=bF hc hm
   obtain ⟨ho64,hm⟩:=chkE hm
   obtain ⟨ho65,hm⟩:=chkE hm
   refine s_drawS (base:=(fS [0,1,4,6,7] [vS s,vI v19,vP b1,vU (bat s i),vP b11])) (L:=[eB b11 [vU 5,vS v20,vI 0,vN,vF],eB b1 [vU 0,vN,vI 0,vN,vF]]) 10 2 (fun yg63 => [vA b11 1,vS v20,vS s,vI v19,vI v19,vI (w64 (v19 + 1)),vS (sub s v19 (w64 (v19 + 1))),vS (v20 ++ (sub s v19 (w64 (v19 + 1)))),vA b11 1,undef]) (fun yg63 => [[],[],[],[],[],[],[],[],[],[eB b11 [vU 5,vS (v20 ++ (sub s v19 (w64 (v19 + 1)))),vI 0,vN,vF]]]) [[10],[10],[],[],[],[],[],[],[10],[10]] [[],[],[],[],[],[],[],[],[],[10]] [[0],[0,1],[2],[3],[4],[4,5],[2,3,4,5,6],[0,1,2,3,4,5,6,7],[8],[0,1,2,3,4,5,6,7,8,9]] [] (FrG.keep (ks:=[0,1,4,6,7]) H52 (by kernel_rfl)) (fun _ _ h => by cases h) (by kernel_rfl) hS (by kernel_rfl) rfl rfl (by kernel_rfl) (by kernel_rfl) (by kernel_rfl) (gd_none (by kernel_rfl) _ _) ?hloc_yg63 ?hstep_yg63 fun _ _ yg63 H67 hv hS => ?hK_yg63
   case hloc_yg63 => exact ⟨(fun _ _ _ _ => ⟨rfl,rfl⟩),(fun _ _ _ _ => ⟨rfl,rfl⟩),(fun _ _ _ _ => ⟨rfl,rfl⟩),(fun _ _ _ _ => ⟨rfl,rfl⟩),(fun _ _ _ _ => ⟨rfl,rfl⟩),(fun _ _ _ _ => ⟨rfl,rfl⟩),(fun _ _ _ _ => ⟨rfl,rfl⟩),(fun _ _ _ _ => ⟨rfl,rfl⟩),(fun _ _ _ _ => ⟨rfl,rfl⟩),(fun _ _ _ _ => ⟨rfl,rfl⟩),trivial⟩
   case hstep_yg63 =>
    refine ⟨?_,?_,?_,?_,?_,?_,?_,?_,?_,?_,trivial⟩
    ·intro o ho a w yg63 M Hb hv hO hS
     obtain rfl:=someE ho
     exact Stp.mono (o_evs [] (vA b11 1) none [] Hb rfl (by kernel_rfl) (fun q e => by cases e)) fun _ _ hq => ⟨gL [],fun _ _ => hq.1,(hS.below hq.2.below).sel [0] rfl⟩
    ·intro o ho a w yg63 M Hb hv hO hS
     obtain rfl:=someE ho
     exact Stp.mono (o_evs [(vS v20)] (vS v20) (some (rA b11 1 (vS v20))) [] ((Hb).add (hv 0 (by decide) (by decide) 20 rfl)) rfl (by kernel_rfl) (fun q e => by cases e; exact ((hS.bk 0 rfl).at1 rfl))) fun _ _ hq => ⟨gL [],fun _ _ => hq.1,(hS.below hq.2.below).sel [0] rfl⟩
    ·intro o ho a w yg63 M Hb hv hO hS
     obtain rfl:=someE ho
     exact Stp.mono (o_evs [] (vS s) none [] Hb rfl (by kernel_rfl) (fun q e => by cases e)) fun _ _ hq => ⟨gL [],fun _ _ => hq.1,(hS.below hq.2.below).sel [] rfl⟩
    ·intro o ho a w yg63 M Hb hv hO hS
     obtain rfl:=someE ho
     exact Stp.mono (o_evs [] (vI v19) none [] Hb rfl (by kernel_rfl) (fun q e => by cases e)) fun _ _ hq => ⟨gL [],fun _ _ => hq.1,(hS.below hq.2.below).sel [] rfl⟩
    ·intro o ho a w yg63 M Hb hv hO hS
     obtain rfl:=someE ho
     exact Stp.mono (o_evs [] (vI v19) none [] Hb rfl (by kernel_rfl) (fun q e => by cases e)) fun _ _ hq => ⟨gL [],fun _ _ => hq.1,(hS.below hq.2.below).sel [] rfl⟩
    ·intro o ho a w yg63 M Hb hv hO hS
     obtain rfl:=someE ho
     exact Stp.mono (o_evs [] (vI (w64 (v19 + 1))) none [] ((Hb).add (hv 4 (by decide) (by decide) 24 rfl)) rfl (by kernel_rfl) (fun q e => by cases e)) fun _ _ hq => ⟨gL [],fun _ _ => hq.1,(hS.below hq.2.below).sel [] rfl⟩
    ·intro o ho a w yg63 M Hb hv hO hS
     obtain rfl:=someE ho
     exact Stp.mono (o_evs [] (vS (sub s v19 (w64 (v19 + 1)))) (some (fun _ => 0 ≤ v19 ∧ v19 ≤ (w64 (v19 + 1)) ∧ (w64 (v19 + 1)) ≤ ln s)) [] ((((Hb).add (hv 2 (by decide) (by decide) 22 rfl)).add (hv 3 (by decide) (by decide) 23 rfl)).add (hv 5 (by decide) (by decide) 25 rfl)) rfl (by kernel_rfl) (fun q e => by cases e; exact ho64)) fun _ _ hq => ⟨gL [],fun _ _ => hq.1,(hS.below hq.2.below).sel [] rfl⟩
    ·intro o ho a w yg63 M Hb hv hO hS
     obtain rfl:=someE ho
     exact Stp.mono (o_evs [] (vS (v20 ++ (sub s v19 (w64 (v19 + 1))))) (some (fun _ => ln v20 + ln (sub s v19 (w64 (v19 + 1))) ≤ 9223372036854775807)) [] (((Hb).add (hv 1 (by decide) (by decide) 21 rfl)).add (hv 6 (by decide) (by decide) 26 rfl)) rfl (by kernel_rfl) (fun q e => by cases e; exact ho65)) fun _ _ hq => ⟨gL [],fun _ _ => hq.1,(hS.below hq.2.below).sel [] rfl⟩
    ·intro o ho a w yg63 M Hb hv hO hS
     obtain rfl:=someE ho
     exact Stp.mono (o_evs [] (vA b11 1) none [] Hb rfl (by kernel_rfl) (fun q e => by cases e)) fun _ _ hq => ⟨gL [],fun _ _ => hq.1,(hS.below hq.2.below).sel [0] rfl⟩
    ·intro o ho a w yg63 M Hb hv hO hS0
     obtain rfl:=someE ho
     have H : Fr 94 ((fS [28,27] [vA b11 1,vS (v20 ++ (sub s v19 (w64 (v19 + 1))))]) ++ (fS [0,1,4,6,7] [vS s,vI v19,vP b1,vU (bat s i),vP b11])) _:=((Hb).add (hv 7 (by decide) (by decide) 27 rfl)).add (hv 8 (by decide) (by decide) 28 rfl)
     obtain ⟨X,hX⟩ : ∃ X,X = fpl [eB b11 [vU 5,vS v20,vI 0,vN,vF]]:=⟨_,rfl⟩
     have hS : SH M X w [eB b11 [vU 5,vS v20,vI 0,vN,vF]] w:=by rw [hX]; exact hS0
     have hd:=hS.hand [0] [] rfl rfl
     refine Stp.mono (o_store [vU 5,vS (v20 ++ (sub s v19 (w64 (v19 + 1)))),vI 0,vN,vF] H hd rfl rfl (by kernel_rfl) rfl rfl rfl) ?_
     rintro v w2 hq
     replace hS : SH M X w [eB b11 [vU 5,vS (v20 ++ (sub s v19 (w64 (v19 + 1)))),vI 0,vN,vF]] _:=hS.join [0] [] rfl rfl hq
     rw [hX] at hS
     exact ⟨gL [],(fun _ h => by cases h),hS.sel [0] rfl⟩
   have H68 : Fr 94 (fS [0,1,4,6,7] [vS s,vI v19,vP b1,vU (bat s i),vP b11]) _:=(FrG.keep (ks:=[0,1,4,6,7]) H67 (by kernel_rfl))
   replace hS : SH M X w [eB b11 [vU 5,vS (v20 ++ (sub s v19 (w64 (v19 + 1)))),vI 0,vN,vF],eB b1 [vU 0,vN,vI 0,vN,vF]] _:=hS
   clear hv H67
   refine w_reg [] [0,1,4,6,7] (fS [0,1,4,6,7] [vS s,vI (w64 (v19 + 1)),vP b1,vU (bat s i),vP b11]) [] H68 (by kernel_rfl) trivial fun _ _ H70 hb => ?_
   replace hS:=hS.below hb
   exact ⟨_,Nat.lt_succ_self _,w64 (v19 + 1),v20 ++ (sub s v19 (w64 (v19 + 1))),hm,FrG.keep (ks:=[0,4,6,7,1]) H70 (by kernel_rfl),hS⟩
 ·rintro _ _ ⟨s_z16,hz,H,hS⟩
  subst hz
  replace hm:=sumR hm_z16
  apply w_seq
  apply wl_start
  refine wl_batch 0 2 [(vG [vU 5,vS s_z16.2,vI 0,vN,vF])] [4,92,93] (fS [4,92,93] [vP b1,vG [vU 5,vS s_z16.2,vI 0,vN,vF],vI s_z16.1]) [rN b11 0 [vU 5,vS s_z16.2,vI 0,vN,vF]] H (by decide) (by kernel_rfl) ⟨((hS.bk 0 rfl).atD rfl),trivial⟩ fun _ _ H79 hb => ?_
  replace hS:=hS.below hb
  have hd:=hS.hand [1] [0] rfl rfl
  refine m_stp0 [4,93] (fS [4,93] [vP b1,vI s_z16.1]) H79 rfl rfl rfl (o_store [vU 5,vS s_z16.2,vI 0,vN,vF] H79 hd rfl rfl (by kernel_rfl) rfl rfl rfl) rfl fun _ _ H81 hq => ?_
  obtain ⟨_,hq⟩:=hq
  replace hS : SH M X w [eB b1 [vU 5,vS s_z16.2,vI 0,vN,vF],eB b11 [vU 5,vS s_z16.2,vI 0,vN,vF]] _:=hS.join [1] [0] rfl rfl hq
  refine wl_batch 3 4 [] [4,5] (fS [4,5] [vP b1,vI s_z16.1]) [] H81 (by decide) (by kernel_rfl) trivial fun _ _ H83 hb => ?_
  replace hS:=hS.below hb
  apply wl_end rfl
  replace hS : SH M X w [eB b1 [vU 5,vS s_z16.2,vI 0,vN,vF]] _:=hS.sel [0] rfl
  apply w_ret
  obtain rfl:=someE hm
  exact retR2 H83 rfl (oneRes_agg rfl (hS.bk 0 rfl) Tryz.underlying49 rfl (by kernel_rfl)) rfl ⟨_,rfl,rfl,(hS.sel [] rfl)⟩
theorem r02_quoted_ok  (m : Nat) (s : Str) (i : Int) (r : TToken × Int) (hm : r02_quoted m s i = some r) : Ret Tryz.prog 104 ⟨[vS s,vI i]⟩ (vW [vG (cT r.1),vI r.2]):=retP_of (Tryz.call104 _) (fun w h => r02_quoted_w F0 m   s i r hm w h)

theorem r02_Starts_w  (M : Av) (c_ : Int) (r : Bool) (hm : r02_Starts c_ = r) (w : World) (hS : S0 M [] w) : Calls Tryz.prog 122 ⟨[vU c_]⟩ w (fun e w' => ∃ v,e = .returned v ∧ v = vB r ∧ SH M (fpl []) w [] w'):=by
 rw [r02_Starts] at hm
 have hS0 : SH M (fpl []) w [] w:=hS
 generalize hX : fpl [] = X at hS0 ⊢
 clear hS hX
 have hS:=hS0
 clear hS0
 refine calls_entryP Tryz.func122 rfl Tryz.ntmps122 rfl fun _ H => ?_
 refine s_reg [] [0] [(0,[],vU c_)] [] H (by kernel_rfl) trivial fun _ _ H2 hb => ?_
 replace hS:=hS.below hb
 refine s_reg [(vU (r01_Small c_))] [0,3] (fS [0,3] [vU c_,vU (r01_Small c_)]) [rB 141 [vU c_] (vU (r01_Small c_))] H2 (by kernel_rfl) ⟨((r01_Small_ok _).b),trivial⟩ fun _ _ H4 hb => ?_
 replace hS:=hS.below hb
 obtain ⟨x5,hx5,hm⟩:=letE hm
 obtain ⟨x6,hx6,hm⟩:=letE hm
 refine s_reg [] [2] [(2,[],vB x6)] [] H4 (by subst hx5 hx6; kernel_rfl) trivial fun _ _ H8 hb => ?_
 replace hS:=hS.below hb
 apply w_ret
 subst hm
 exact retR1 H8 rfl rfl ⟨_,rfl,rfl,(hS.sel [] rfl)⟩
theorem r02_Starts_ok  (c_ : Int) : Ret Tryz.prog 122 ⟨[vU c_]⟩ (vB (r02_Starts c_)):=retP_of (Tryz.call122 _) (fun w h => r02_Starts_w F0   c_ _ rfl w h)

theorem r02_Letter_w  (M : Av) (c_ : Int) (r : Bool) (hm : r02_Letter c_ = r) (w : World) (hS : S0 M [] w) : Calls Tryz.prog 105 ⟨[vU c_]⟩ w (fun e w' => ∃ v,e = .returned v ∧ v = vB r ∧ SH M (fpl []) w [] w'):=by
 rw [r02_Letter] at hm
 have hS0 : SH M (fpl []) w [] w:=hS
 generalize hX : fpl [] = X at hS0 ⊢
 clear hS hX
 have hS:=hS0
 clear hS0
 refine calls_entryP Tryz.func105 rfl Tryz.ntmps105 rfl fun _ H => ?_
 refine s_reg [] [0] [(0,[],vU c_)] [] H (by kernel_rfl) trivial fun _ _ H2 hb => ?_
 replace hS:=hS.below hb
 obtain ⟨x3,hx3,hm⟩:=letE hm
 refine s_reg [(vB (r02_Starts c_)),(vB (r02_Digit c_))] [2] [(2,[],vB x3)] [rB 122 [vU c_] (vB (r02_Starts c_)),fun wz => ((r02_Starts c_) = false ∧ True → RetB Tryz.prog 123 ⟨[vU c_]⟩ (vB (r02_Digit c_)) wz)] H2 (by subst hx3; kernel_rfl) ⟨((r02_Starts_ok _).b),fun hg => (r02_Digit_ok _).b,trivial⟩ fun _ _ H5 hb => ?_
 replace hS:=hS.below hb
 apply w_ret
 subst hm
 exact retR1 H5 rfl rfl ⟨_,rfl,rfl,(hS.sel [] rfl)⟩
theorem r02_Letter_ok  (c_ : Int) : Ret Tryz.prog 105 ⟨[vU c_]⟩ (vB (r02_Letter c_)):=retP_of (Tryz.call105 _) (fun w h => r02_Letter_w F0   c_ _ rfl w h)

theorem r02_Escape_w  (M : Av) (s : Str) (i : Int) (r : Bool) (hm : r02_Escape s i = some r) (w : World) (hS : S0 M [] w) : Calls Tryz.prog 106 ⟨[vS s,vI i]⟩ w (fun e w' => ∃ v,e = .returned v ∧ v = vB r ∧ SH M (fpl []) w [] w'):=by
 rw [r02_Escape] at hm
 have hS0 : SH M (fpl []) w [] w:=hS
 generalize hX : fpl [] = X at hS0 ⊢
 clear hS hX
 have hS:=hS0
 clear hS0
 refine calls_entryP Tryz.func106 rfl Tryz.ntmps106 rfl fun _ H => ?_
 refine s_reg [] [0,1] (fS [0,1] [vS s,vI i]) [] H (by kernel_rfl) trivial fun _ _ H2 hb => ?_
 replace hS:=hS.below hb
 obtain ⟨y3,hy3,hm⟩:=bindE hm
 obtain ⟨y4,hy4,hm⟩:=bindE hm
 refine s_reg [(vU y3),(vU y4)] [4] [(4,[],vB (cond (y3 == 92) (y4 != 10) false))] [rB 120 [vS s,vI i] (vU y3),fun wz => ((y3 == 92) = true ∧ True → RetB Tryz.prog 120 ⟨[vS s,vI (w64 (i + 1))]⟩ (vU y4) wz)] H2 (by kernel_rfl) ⟨((r02_At_ok _ _ _ hy3).b),fun hg => (r02_At_ok _ _ _ (bT (hg.1) hy4)).b,trivial⟩ fun _ _ H6 hb => ?_
 replace hS:=hS.below hb
 apply w_ret
 obtain rfl:=someE hm
 exact retR1 H6 rfl rfl ⟨_,rfl,rfl,(hS.sel [] rfl)⟩
theorem r02_Escape_ok  (s : Str) (i : Int) (r : Bool) (hm : r02_Escape s i = some r) : Ret Tryz.prog 106 ⟨[vS s,vI i]⟩ (vB r):=retP_of (Tryz.call106 _) (fun w h => r02_Escape_w F0   s i r hm w h)

theorem r02_Named_w  (M : Av) (m : Nat) (s : Str) (i : Int) (r : Str × Int) (hm : r02_Named m s i = some r) (w : World) (hS : S0 M [] w) : Calls Tryz.prog 107 ⟨[vS s,vI i]⟩ w (fun e w' => ∃ v,e = .returned v ∧ v = vW [vS r.1,vI r.2] ∧ SH M (fpl []) w [] w'):=by
 rw [r02_Named] at hm
 have hS0 : SH M (fpl []) w [] w:=hS
 generalize hX : fpl [] = X at hS0 ⊢
 clear hS hX
 have hS:=hS0
 clear hS0
 refine calls_entryP Tryz.func107 rfl Tryz.ntmps107 rfl fun _ H => ?_
 refine s_reg [] [0,1] (fS [0,1] [vS s,vI i]) [] H (by kernel_rfl) trivial fun _ _ H2 hb => ?_
 replace hS:=hS.below hb
 refine s_reg [] [0,1,6] (fS [0,1,6] [vS s,vI i,vN]) [] H2 (by kernel_rfl) trivial fun _ _ H4 hb => ?_
 replace hS:=hS.below hb
 apply w_block
 refine w_loop (fun kk a' w' => ∃ (v5 : Int) (v6 : Str),r02_Named_L1 m s kk v5 v6 = some _ ∧ Fr 49 (fS [0,1,6] [vS s,vI v5,vS v6]) a' ∧ SH M X w [] w') ⟨_,i,[],hm,FrG.keep (ks:=[0,1,6]) H4 (by kernel_rfl),hS⟩ ?_
 clear hm H4 hS
 rintro kk _ _ ⟨v5,v6,hm,H,hS⟩
 cases kk with
 | zero => exact noneE hm
 | succ kk =>
  rw [r02_Named_L1] at hm
  apply w_block
  obtain ⟨ho7,hm⟩:=chkE hm
  obtain ⟨x8,hx8,hm⟩:=letE hm
  refine s_reg [(vB (r02_Letter (bat s v5)))] [0,1,6,18] (fS [0,1,6,18] [vS s,vI v5,vS v6,vB x8]) [fun _ => ((decide (v5 < (ln s))) = true ∧ True → 0 ≤ v5 ∧ v5 < ln s),fun wz => ((decide (v5 < (ln s))) = true ∧ True → RetB Tryz.prog 105 ⟨[vU (bat s v5)]⟩ (vB (r02_Letter (bat s v5))) wz)] H (by subst hx8; kernel_rfl) ⟨fun hg => (ho7 hg.1),fun hg => (r02_Letter_ok _).b,trivial⟩ fun _ _ H10 hb => ?_
  replace hS:=hS.below hb
  refine w_if H10 rfl (fun hc => ?c31) (fun hc => ?_)
  case c31 =>
   replace hm:=bT hc hm
   obtain ⟨ho11,hm⟩:=chkE hm
   obtain ⟨ho12,hm⟩:=chkE hm
   refine s_reg [] [0,1,6] (fS [0,1,6] [vS s,vI v5,vS (v6 ++ (sub s v5 (w64 (v5 + 1))))]) [fun _ => 0 ≤ v5 ∧ v5 ≤ (w64 (v5 + 1)) ∧ (w64 (v5 + 1)) ≤ ln s,fun _ => ln v6 + ln (sub s v5 (w64 (v5 + 1))) ≤ 9223372036854775807] H10 (by kernel_rfl) ⟨ho11,ho12,trivial⟩ fun _ _ H14 hb => ?_
   replace hS:=hS.below hb
   refine w_reg [] [0,1,6] (fS [0,1,6] [vS s,vI (w64 (v5 + 1)),vS (v6 ++ (sub s v5 (w64 (v5 + 1))))]) [] H14 (by kernel_rfl) trivial fun _ _ H16 hb => ?_
   replace hS:=hS.below hb
   exact ⟨_,Nat.lt_succ_self _,w64 (v5 + 1),v6 ++ (sub s v5 (w64 (v5 + 1))),hm,FrG.keep (ks:=[0,1,6]) H16 (by kernel_rfl),hS⟩
  replace hm:=bF hc hm
  obtain ⟨y17,hy17,hm⟩:=bindE hm
  refine s_reg [(vB y17)] [0,1,6,36] (fS [0,1,6,36] [vS s,vI v5,vS v6,vB (cond (decide (v5 < (ln s))) y17 false)]) [fun wz => ((decide (v5 < (ln s))) = true ∧ True → RetB Tryz.prog 106 ⟨[vS s,vI v5]⟩ (vB y17) wz)] H10 (by kernel_rfl) ⟨fun hg => (r02_Escape_ok _ _ _ (bT (hg.1) hy17)).b,trivial⟩ fun _ _ H19 hb => ?_
  replace hS:=hS.below hb
  refine w_if H19 rfl (fun hc => ?_) (fun hc => ?c30)
  case c30 =>
   replace hm:=bF hc hm
   refine s_reg [] [4,5] (fS [4,5] [vS v6,vI v5]) [] H19 (by kernel_rfl) trivial fun _ _ H29 hb => ?_
   replace hS:=hS.below hb
   apply w_ret
   obtain rfl:=someE hm
   exact retR2 H29 rfl rfl rfl ⟨_,rfl,rfl,(hS.sel [] rfl)⟩
  replace hm:=bT hc hm
  obtain ⟨y20,hy20,hm⟩:=bindE hm
  refine s_reg [(vW [vS y20.1,vI y20.2])] [0,6,7,8] (fS [0,6,7,8] [vS s,vS v6,vS y20.1,vI y20.2]) [rB 121 [vS s,vI v5] (vW [vS y20.1,vI y20.2])] H19 (by kernel_rfl) ⟨((r02_Escaped_ok m _ _ _ hy20).b),trivial⟩ fun _ _ H22 hb => ?_
  replace hS:=hS.below hb
  obtain ⟨ho23,hm⟩:=chkE hm
  refine s_reg [] [0,6,8] (fS [0,6,8] [vS s,vS (v6 ++ y20.1),vI y20.2]) [fun _ => ln v6 + ln y20.1 ≤ 9223372036854775807] H22 (by kernel_rfl) ⟨ho23,trivial⟩ fun _ _ H25 hb => ?_
  replace hS:=hS.below hb
  refine w_reg [] [0,1,6] (fS [0,1,6] [vS s,vI y20.2,vS (v6 ++ y20.1)]) [] H25 (by kernel_rfl) trivial fun _ _ H27 hb => ?_
  replace hS:=hS.below hb
  exact ⟨_,Nat.lt_succ_self _,y20.2,v6 ++ y20.1,hm,FrG.keep (ks:=[0,1,6]) H27 (by kernel_rfl),hS⟩
theorem r02_Named_ok  (m : Nat) (s : Str) (i : Int) (r : Str × Int) (hm : r02_Named m s i = some r) : Ret Tryz.prog 107 ⟨[vS s,vI i]⟩ (vW [vS r.1,vI r.2]):=retP_of (Tryz.call107 _) (fun w h => r02_Named_w F0 m   s i r hm w h)

theorem r02_NameAt_w  (M : Av) (s : Str) (i : Int) (r : Bool) (hm : r02_NameAt s i = some r) (w : World) (hS : S0 M [] w) : Calls Tryz.prog 108 ⟨[vS s,vI i]⟩ w (fun e w' => ∃ v,e = .returned v ∧ v = vB r ∧ SH M (fpl []) w [] w'):=by
 rw [r02_NameAt] at hm
 have hS0 : SH M (fpl []) w [] w:=hS
 generalize hX : fpl [] = X at hS0 ⊢
 clear hS hX
 have hS:=hS0
 clear hS0
 refine calls_entryP Tryz.func108 rfl Tryz.ntmps108 rfl fun _ H => ?_
 refine s_reg [] [0,1] (fS [0,1] [vS s,vI i]) [] H (by kernel_rfl) trivial fun _ _ H2 hb => ?_
 replace hS:=hS.below hb
 apply w_seq
 obtain ⟨y3,hy3,hm⟩:=bindE hm
 refine s_reg [(vU y3)] [0,1,8] (fS [0,1,8] [vS s,vI i,vB (y3 == 45)]) [rB 120 [vS s,vI i] (vU y3)] H2 (by kernel_rfl) ⟨((r02_At_ok _ _ _ hy3).b),trivial⟩ fun _ _ H5 hb => ?_
 replace hS:=hS.below hb
 refine w_if H5 rfl (fun hc => ?_) (fun hc => ?c16)
 case c16 =>
  replace hm:=bF hc hm
  apply w_skip
  obtain ⟨y12,hy12,hm⟩:=bindE hm
  obtain ⟨y13,hy13,hm⟩:=bindE hm
  refine s_reg [(vU y12),(vB (r02_Starts y12)),(vB y13)] [4] [(4,[],vB (cond (r02_Starts y12) true y13))] [rB 120 [vS s,vI i] (vU y12),rB 122 [vU y12] (vB (r02_Starts y12)),fun wz => ((r02_Starts y12) = false ∧ True → RetB Tryz.prog 106 ⟨[vS s,vI i]⟩ (vB y13) wz)] H5 (by kernel_rfl) ⟨((r02_At_ok _ _ _ hy12).b),((r02_Starts_ok _).b),fun hg => (r02_Escape_ok _ _ _ (bF (hg.1) hy13)).b,trivial⟩ fun _ _ H15 hb => ?_
  replace hS:=hS.below hb
  apply w_ret
  obtain rfl:=someE hm
  exact retR1 H15 rfl rfl ⟨_,rfl,rfl,(hS.sel [] rfl)⟩
 replace hm:=bT hc hm
 obtain ⟨y6,hy6,hm⟩:=bindE hm
 obtain ⟨y7,hy7,hm⟩:=bindE hm
 obtain ⟨y8,hy8,hm⟩:=bindE hm
 obtain ⟨x9,hx9,hm⟩:=letE hm
 refine s_reg [(vU y6),(vB (r02_Starts y6)),(vU y7),(vB y8)] [4] [(4,[],vB x9)] [rB 120 [vS s,vI (w64 (i + 1))] (vU y6),rB 122 [vU y6] (vB (r02_Starts y6)),fun wz => ((r02_Starts y6) = false ∧ True → RetB Tryz.prog 120 ⟨[vS s,vI (w64 (i + 1))]⟩ (vU y7) wz),fun wz => ((cond (r02_Starts y6) true (y7 == 45)) = false ∧ True → RetB Tryz.prog 106 ⟨[vS s,vI (w64 (i + 1))]⟩ (vB y8) wz)] H5 (by subst hx9; kernel_rfl) ⟨((r02_At_ok _ _ _ hy6).b),((r02_Starts_ok _).b),fun hg => (r02_At_ok _ _ _ (bF (hg.1) hy7)).b,fun hg => (r02_Escape_ok _ _ _ (bF (hg.1) hy8)).b,trivial⟩ fun _ _ H11 hb => ?_
 replace hS:=hS.below hb
 apply w_ret
 obtain rfl:=someE hm
 exact retR1 H11 rfl rfl ⟨_,rfl,rfl,(hS.sel [] rfl)⟩
theorem r02_NameAt_ok  (s : Str) (i : Int) (r : Bool) (hm : r02_NameAt s i = some r) : Ret Tryz.prog 108 ⟨[vS s,vI i]⟩ (vB r):=retP_of (Tryz.call108 _) (fun w h => r02_NameAt_w F0   s i r hm w h)

theorem r02_NumberAt_w  (M : Av) (s : Str) (i : Int) (r : Bool) (hm : r02_NumberAt s i = some r) (w : World) (hS : S0 M [] w) : Calls Tryz.prog 109 ⟨[vS s,vI i]⟩ w (fun e w' => ∃ v,e = .returned v ∧ v = vB r ∧ SH M (fpl []) w [] w'):=by
 rw [r02_NumberAt] at hm
 have hS0 : SH M (fpl []) w [] w:=hS
 generalize hX : fpl [] = X at hS0 ⊢
 clear hS hX
 have hS:=hS0
 clear hS0
 refine calls_entryP Tryz.func109 rfl Tryz.ntmps109 rfl fun _ H => ?_
 refine s_reg [] [0,1] (fS [0,1] [vS s,vI i]) [] H (by kernel_rfl) trivial fun _ _ H2 hb => ?_
 replace hS:=hS.below hb
 obtain ⟨z3,hz,hm⟩:=bindE hm
 refine w_cut (fun a' w' => Fr 27 (fS [0,1] [vS s,vI z3]) a' ∧ SH M X w [] w') ?_ ?_
 ·replace hm:=hz
  obtain ⟨y4,hy4,hm⟩:=bindE hm
  refine s_reg [(vU y4)] [0,1,5] (fS [0,1,5] [vS s,vI i,vU y4]) [rB 120 [vS s,vI i] (vU y4)] H2 (by kernel_rfl) ⟨((r02_At_ok _ _ _ hy4).b),trivial⟩ fun _ _ H6 hb => ?_
  replace hS:=hS.below hb
  refine s_reg [] [0,1,14] (fS [0,1,14] [vS s,vI i,vB (cond (y4 == 43) true (y4 == 45))]) [] H6 (by kernel_rfl) trivial fun _ _ H8 hb => ?_
  replace hS:=hS.below hb
  refine w_if H8 rfl (fun hc => ?_) (fun hc => ?c11)
  case c11 =>
   replace hm:=bF hc hm
   apply w_skip
   obtain rfl:=someE hm
   exact ⟨FrG.keep (ks:=[0,1]) H8 (by kernel_rfl),hS⟩
  replace hm:=bT hc hm
  refine w_reg [] [0,1] (fS [0,1] [vS s,vI (w64 (i + 1))]) [] H8 (by kernel_rfl) trivial fun _ _ H10 hb => ?_
  replace hS:=hS.below hb
  obtain rfl:=someE hm
  exact ⟨FrG.keep (ks:=[0,1]) H10 (by kernel_rfl),hS⟩
 ·rintro _ _ ⟨H,hS⟩
  obtain ⟨z12,hz,hm⟩:=bindE hm
  refine w_cut (fun a' w' => Fr 27 (fS [0,1] [vS s,vI z12]) a' ∧ SH M X w [] w') ?_ ?_
  ·replace hm:=hz
   obtain ⟨y13,hy13,hm⟩:=bindE hm
   refine s_reg [(vU y13)] [0,1,20] (fS [0,1,20] [vS s,vI z3,vB (y13 == 46)]) [rB 120 [vS s,vI z3] (vU y13)] H (by kernel_rfl) ⟨((r02_At_ok _ _ _ hy13).b),trivial⟩ fun _ _ H15 hb => ?_
   replace hS:=hS.below hb
   refine w_if H15 rfl (fun hc => ?_) (fun hc => ?c18)
   case c18 =>
    replace hm:=bF hc hm
    apply w_skip
    obtain rfl:=someE hm
    exact ⟨FrG.keep (ks:=[0,1]) H15 (by kernel_rfl),hS⟩
   replace hm:=bT hc hm
   refine w_reg [] [0,1] (fS [0,1] [vS s,vI (w64 (z3 + 1))]) [] H15 (by kernel_rfl) trivial fun _ _ H17 hb => ?_
   replace hS:=hS.below hb
   obtain rfl:=someE hm
   exact ⟨FrG.keep (ks:=[0,1]) H17 (by kernel_rfl),hS⟩
  ·rintro _ _ ⟨H,hS⟩
   obtain ⟨y19,hy19,hm⟩:=bindE hm
   refine s_reg [(vU y19),(vB (r02_Digit y19))] [4] [(4,[],vB (r02_Digit y19))] [rB 120 [vS s,vI z12] (vU y19),rB 123 [vU y19] (vB (r02_Digit y19))] H (by kernel_rfl) ⟨((r02_At_ok _ _ _ hy19).b),((r02_Digit_ok _).b),trivial⟩ fun _ _ H21 hb => ?_
   replace hS:=hS.below hb
   apply w_ret
   obtain rfl:=someE hm
   exact retR1 H21 rfl rfl ⟨_,rfl,rfl,(hS.sel [] rfl)⟩
theorem r02_NumberAt_ok  (s : Str) (i : Int) (r : Bool) (hm : r02_NumberAt s i = some r) : Ret Tryz.prog 109 ⟨[vS s,vI i]⟩ (vB r):=retP_of (Tryz.call109 _) (fun w h => r02_NumberAt_w F0   s i r hm w h)

theorem r02_digits_w  (M : Av) (m : Nat) (s : Str) (i : Int) (r : Int) (hm : r02_digits m s i = some r) (w : World) (hS : S0 M [] w) : Calls Tryz.prog 142 ⟨[vS s,vI i]⟩ w (fun e w' => ∃ v,e = .returned v ∧ v = vI r ∧ SH M (fpl []) w [] w'):=by
 rw [r02_digits] at hm
 have hS0 : SH M (fpl []) w [] w:=hS
 generalize hX : fpl [] = X at hS0 ⊢
 clear hS hX
 have hS:=hS0
 clear hS0
 refine calls_entryP Tryz.func142 rfl Tryz.ntmps142 rfl fun _ H => ?_
 refine s_reg [] [0,1] (fS [0,1] [vS s,vI i]) [] H (by kernel_rfl) trivial fun _ _ H2 hb => ?_
 replace hS:=hS.below hb
 obtain ⟨z3,hz,hm⟩:=bindE hm
 refine w_cut (fun a' w' => Fr 12 [(1,[],vI z3)] a' ∧ SH M X w [] w') ?_ ?_
 ·replace hm:=hz
  apply w_block
  refine w_loop (fun kk a' w' => ∃ (v4 : Int),r02_digits_L1 m s kk v4 = some _ ∧ Fr 12 (fS [0,1] [vS s,vI v4]) a' ∧ SH M X w [] w') ⟨_,i,hm,FrG.keep (ks:=[0,1]) H2 (by kernel_rfl),hS⟩ ?_
  clear hm H2 hS
  rintro kk _ _ ⟨v4,hm,H,hS⟩
  cases kk with
  | zero => exact noneE hm
  | succ kk =>
   rw [r02_digits_L1] at hm
   apply w_seq
   obtain ⟨y5,hy5,hm⟩:=bindE hm
   refine s_reg [(vU y5),(vB (r02_Digit y5))] [0,1,8] (fS [0,1,8] [vS s,vI v4,vB (r02_Digit y5)]) [rB 120 [vS s,vI v4] (vU y5),rB 123 [vU y5] (vB (r02_Digit y5))] H (by kernel_rfl) ⟨((r02_At_ok _ _ _ hy5).b),((r02_Digit_ok _).b),trivial⟩ fun _ _ H7 hb => ?_
   replace hS:=hS.below hb
   refine w_if H7 rfl (fun hc => ?_) (fun hc => ?c10)
   case c10 =>
    replace hm:=bF hc hm
    apply w_exit rfl
    obtain rfl:=someE hm
    exact ⟨FrG.keep (ks:=[1]) H7 (by kernel_rfl),hS⟩
   replace hm:=bT hc hm
   apply w_skip
   apply w_block
   refine w_reg [] [0,1] (fS [0,1] [vS s,vI (w64 (v4 + 1))]) [] H7 (by kernel_rfl) trivial fun _ _ H9 hb => ?_
   replace hS:=hS.below hb
   exact ⟨_,Nat.lt_succ_self _,w64 (v4 + 1),hm,FrG.keep (ks:=[0,1]) H9 (by kernel_rfl),hS⟩
 ·rintro _ _ ⟨H,hS⟩
  refine s_reg [] [4] [(4,[],vI z3)] [] H (by kernel_rfl) trivial fun _ _ H13 hb => ?_
  replace hS:=hS.below hb
  apply w_ret
  obtain rfl:=someE hm
  exact retR1 H13 rfl rfl ⟨_,rfl,rfl,(hS.sel [] rfl)⟩
theorem r02_digits_ok  (m : Nat) (s : Str) (i : Int) (r : Int) (hm : r02_digits m s i = some r) : Ret Tryz.prog 142 ⟨[vS s,vI i]⟩ (vI r):=retP_of (Tryz.call142 _) (fun w h => r02_digits_w F0 m   s i r hm w h)

theorem r02_NumberEnd_w  (M : Av) (m : Nat) (s : Str) (i : Int) (r : Int × Bool) (hm : r02_NumberEnd m s i = some r) (w : World) (hS : S0 M [] w) : Calls Tryz.prog 124 ⟨[vS s,vI i]⟩ w (fun e w' => ∃ v,e = .returned v ∧ v = vW [vI r.1,vB r.2] ∧ SH M (fpl []) w [] w'):=by
 rw [r02_NumberEnd] at hm
 have hS0 : SH M (fpl []) w [] w:=hS
 generalize hX : fpl [] = X at hS0 ⊢
 clear hS hX
 have hS:=hS0
 clear hS0
 refine calls_entryP Tryz.func124 rfl Tryz.ntmps124 rfl fun _ H => ?_
 refine s_reg [] [0,1] (fS [0,1] [vS s,vI i]) [] H (by kernel_rfl) trivial fun _ _ H2 hb => ?_
 replace hS:=hS.below hb
 obtain ⟨z3,hz,hm⟩:=bindE hm
 refine w_cut (fun a' w' => Fr 71 (fS [0,1] [vS s,vI z3]) a' ∧ SH M X w [] w') ?_ ?_
 ·replace hm:=hz
  obtain ⟨y4,hy4,hm⟩:=bindE hm
  refine s_reg [(vU y4)] [0,1,6] (fS [0,1,6] [vS s,vI i,vU y4]) [rB 120 [vS s,vI i] (vU y4)] H2 (by kernel_rfl) ⟨((r02_At_ok _ _ _ hy4).b),trivial⟩ fun _ _ H6 hb => ?_
  replace hS:=hS.below hb
  refine s_reg [] [0,1,19] (fS [0,1,19] [vS s,vI i,vB (cond (y4 == 43) true (y4 == 45))]) [] H6 (by kernel_rfl) trivial fun _ _ H8 hb => ?_
  replace hS:=hS.below hb
  refine w_if H8 rfl (fun hc => ?_) (fun hc => ?c11)
  case c11 =>
   replace hm:=bF hc hm
   apply w_skip
   obtain rfl:=someE hm
   exact ⟨FrG.keep (ks:=[0,1]) H8 (by kernel_rfl),hS⟩
  replace hm:=bT hc hm
  refine w_reg [] [0,1] (fS [0,1] [vS s,vI (w64 (i + 1))]) [] H8 (by kernel_rfl) trivial fun _ _ H10 hb => ?_
  replace hS:=hS.below hb
  obtain rfl:=someE hm
  exact ⟨FrG.keep (ks:=[0,1]) H10 (by kernel_rfl),hS⟩
 ·rintro _ _ ⟨H,hS⟩
  obtain ⟨y12,hy12,hm⟩:=bindE hm
  refine s_reg [(vI y12)] [0,1] (fS [0,1] [vS s,vI y12]) [rB 142 [vS s,vI z3] (vI y12)] H (by kernel_rfl) ⟨((r02_digits_ok m _ _ _ hy12).b),trivial⟩ fun _ _ H14 hb => ?_
  replace hS:=hS.below hb
  refine s_reg [] [0,1,7] (fS [0,1,7] [vS s,vI y12,vT]) [] H14 (by kernel_rfl) trivial fun _ _ H16 hb => ?_
  replace hS:=hS.below hb
  obtain ⟨z17,hz,hm⟩:=bindE hm
  refine w_cut (fun a' w' => Fr 71 (fS [0,1,7] [vS s,vI z17.1,vB z17.2]) a' ∧ SH M X w [] w') ?_ ?_
  ·replace hm:=hz
   obtain ⟨y18,hy18,hm⟩:=bindE hm
   obtain ⟨y19,hy19,hm⟩:=bindE hm
   refine s_reg [(vU y18),(vU y19),(vB (r02_Digit y19))] [0,1,7,35] (fS [0,1,7,35] [vS s,vI y12,vT,vB (cond (y18 == 46) (r02_Digit y19) false)]) [rB 120 [vS s,vI y12] (vU y18),fun wz => ((y18 == 46) = true ∧ True → RetB Tryz.prog 120 ⟨[vS s,vI (w64 (y12 + 1))]⟩ (vU y19) wz),fun wz => ((y18 == 46) = true ∧ True → RetB Tryz.prog 123 ⟨[vU y19]⟩ (vB (r02_Digit y19)) wz)] H16 (by kernel_rfl) ⟨((r02_At_ok _ _ _ hy18).b),fun hg => (r02_At_ok _ _ _ (bT (hg.1) hy19)).b,fun hg => (r02_Digit_ok _).b,trivial⟩ fun _ _ H21 hb => ?_
   replace hS:=hS.below hb
   refine w_if H21 rfl (fun hc => ?_) (fun hc => ?c27)
   case c27 =>
    replace hm:=bF hc hm
    apply w_skip
    obtain rfl:=someE hm
    exact ⟨FrG.keep (ks:=[0,1,7]) H21 (by kernel_rfl),hS⟩
   replace hm:=bT hc hm
   refine s_reg [] [0,1,7] (fS [0,1,7] [vS s,vI y12,vF]) [] H21 (by kernel_rfl) trivial fun _ _ H23 hb => ?_
   replace hS:=hS.below hb
   obtain ⟨y24,hy24,hm⟩:=bindE hm
   refine w_reg [(vI y24)] [0,1,7] (fS [0,1,7] [vS s,vI y24,vF]) [rB 142 [vS s,vI (w64 (y12 + 1))] (vI y24)] H23 (by kernel_rfl) ⟨((r02_digits_ok m _ _ _ hy24).b),trivial⟩ fun _ _ H26 hb => ?_
   replace hS:=hS.below hb
   obtain rfl:=someE hm
   exact ⟨FrG.keep (ks:=[0,1,7]) H26 (by kernel_rfl),hS⟩
  ·rintro _ _ ⟨H,hS⟩
   obtain ⟨z28,hz,hm⟩:=bindE hm
   refine w_cut (fun a' w' => Fr 71 (fS [1,7] [vI z28.1,vB z28.2]) a' ∧ SH M X w [] w') ?_ ?_
   ·replace hm:=hz
    obtain ⟨y29,hy29,hm⟩:=bindE hm
    refine s_reg [(vU y29)] [0,1,7,8] (fS [0,1,7,8] [vS s,vI z17.1,vB z17.2,vU y29]) [rB 120 [vS s,vI z17.1] (vU y29)] H (by kernel_rfl) ⟨((r02_At_ok _ _ _ hy29).b),trivial⟩ fun _ _ H31 hb => ?_
    replace hS:=hS.below hb
    refine s_reg [] [0,1,7,48] (fS [0,1,7,48] [vS s,vI z17.1,vB z17.2,vB (cond (y29 == 101) true (y29 == 69))]) [] H31 (by kernel_rfl) trivial fun _ _ H33 hb => ?_
    replace hS:=hS.below hb
    refine w_if H33 rfl (fun hc => ?_) (fun hc => ?c55)
    case c55 =>
     replace hm:=bF hc hm
     apply w_skip
     obtain rfl:=someE hm
     exact ⟨FrG.keep (ks:=[1,7]) H33 (by kernel_rfl),hS⟩
    replace hm:=bT hc hm
    refine s_reg [] [0,1,7,9] (fS [0,1,7,9] [vS s,vI z17.1,vB z17.2,vI (w64 (z17.1 + 1))]) [] H33 (by kernel_rfl) trivial fun _ _ H35 hb => ?_
    replace hS:=hS.below hb
    obtain ⟨z36,hz,hm⟩:=bindE hm
    refine w_cut (fun a' w' => Fr 71 (fS [0,1,7,9] [vS s,vI z17.1,vB z17.2,vI z36]) a' ∧ SH M X w [] w') ?_ ?_
    ·replace hm:=hz
     obtain ⟨y37,hy37,hm⟩:=bindE hm
     refine s_reg [(vU y37)] [0,1,7,9,10] (fS [0,1,7,9,10] [vS s,vI z17.1,vB z17.2,vI (w64 (z17.1 + 1)),vU y37]) [rB 120 [vS s,vI (w64 (z17.1 + 1))] (vU y37)] H35 (by kernel_rfl) ⟨((r02_At_ok _ _ _ hy37).b),trivial⟩ fun _ _ H39 hb => ?_
     replace hS:=hS.below hb
     refine s_reg [] [0,1,7,9,59] (fS [0,1,7,9,59] [vS s,vI z17.1,vB z17.2,vI (w64 (z17.1 + 1)),vB (cond (y37 == 43) true (y37 == 45))]) [] H39 (by kernel_rfl) trivial fun _ _ H41 hb => ?_
     replace hS:=hS.below hb
     refine w_if H41 rfl (fun hc => ?_) (fun hc => ?c44)
     case c44 =>
      replace hm:=bF hc hm
      apply w_skip
      obtain rfl:=someE hm
      exact ⟨FrG.keep (ks:=[0,1,7,9]) H41 (by kernel_rfl),hS⟩
     replace hm:=bT hc hm
     refine w_reg [] [0,1,7,9] (fS [0,1,7,9] [vS s,vI z17.1,vB z17.2,vI (w64 ((w64 (z17.1 + 1)) + 1))]) [] H41 (by kernel_rfl) trivial fun _ _ H43 hb => ?_
     replace hS:=hS.below hb
     obtain rfl:=someE hm
     exact ⟨FrG.keep (ks:=[0,1,7,9]) H43 (by kernel_rfl),hS⟩
    ·rintro _ _ ⟨H,hS⟩
     obtain ⟨y45,hy45,hm⟩:=bindE hm
     refine s_reg [(vU y45),(vB (r02_Digit y45))] [0,1,7,9,65] (fS [0,1,7,9,65] [vS s,vI z17.1,vB z17.2,vI z36,vB (r02_Digit y45)]) [rB 120 [vS s,vI z36] (vU y45),rB 123 [vU y45] (vB (r02_Digit y45))] H (by kernel_rfl) ⟨((r02_At_ok _ _ _ hy45).b),((r02_Digit_ok _).b),trivial⟩ fun _ _ H47 hb => ?_
     replace hS:=hS.below hb
     refine w_if H47 rfl (fun hc => ?_) (fun hc => ?c53)
     case c53 =>
      replace hm:=bF hc hm
      apply w_skip
      obtain rfl:=someE hm
      exact ⟨FrG.keep (ks:=[1,7]) H47 (by kernel_rfl),hS⟩
     replace hm:=bT hc hm
     refine s_reg [] [0,7,9] (fS [0,7,9] [vS s,vF,vI z36]) [] H47 (by kernel_rfl) trivial fun _ _ H49 hb => ?_
     replace hS:=hS.below hb
     obtain ⟨y50,hy50,hm⟩:=bindE hm
     refine w_reg [(vI y50)] [1,7] (fS [1,7] [vI y50,vF]) [rB 142 [vS s,vI z36] (vI y50)] H49 (by kernel_rfl) ⟨((r02_digits_ok m _ _ _ hy50).b),trivial⟩ fun _ _ H52 hb => ?_
     replace hS:=hS.below hb
     obtain rfl:=someE hm
     exact ⟨FrG.keep (ks:=[1,7]) H52 (by kernel_rfl),hS⟩
   ·rintro _ _ ⟨H,hS⟩
    refine s_reg [] [4,5] (fS [4,5] [vI z28.1,vB z28.2]) [] H (by kernel_rfl) trivial fun _ _ H57 hb => ?_
    replace hS:=hS.below hb
    apply w_ret
    obtain rfl:=someE hm
    exact retR2 H57 rfl rfl rfl ⟨_,rfl,rfl,(hS.sel [] rfl)⟩
theorem r02_NumberEnd_ok  (m : Nat) (s : Str) (i : Int) (r : Int × Bool) (hm : r02_NumberEnd m s i = some r) : Ret Tryz.prog 124 ⟨[vS s,vI i]⟩ (vW [vI r.1,vB r.2]):=retP_of (Tryz.call124 _) (fun w h => r02_NumberEnd_w F0 m   s i r hm w h)

theorem r02_Thousandths_w  (M : Av) (m : Nat) (s : Str) (r : Int) (hm : r02_Thousandths m s = some r) (w : World) (hS : S0 M [] w) : Calls Tryz.prog 125 ⟨[vS s]⟩ w (fun e w' => ∃ v,e = .returned v ∧ v = vI r ∧ SH M (fpl []) w [] w'):=by
 rw [r02_Thousandths] at hm
 have hS0 : SH M (fpl []) w [] w:=hS
 generalize hX : fpl [] = X at hS0 ⊢
 clear hS hX
 have hS:=hS0
 clear hS0
 refine calls_entryP Tryz.func125 rfl Tryz.ntmps125 rfl fun _ H => ?_
 refine s_reg [] [0] [(0,[],vS s)] [] H (by kernel_rfl) trivial fun _ _ H2 hb => ?_
 replace hS:=hS.below hb
 refine s_reg [] [0,3,4,5] (fS [0,3,4,5] [vS s,vN,vI 3,vI 0]) [] H2 (by kernel_rfl) trivial fun _ _ H4 hb => ?_
 replace hS:=hS.below hb
 obtain ⟨ho5,hm⟩:=chkE hm
 refine s_reg [] [0,3,4,5,6] (fS [0,3,4,5,6] [vS s,vN,vI 3,vI 0,vB ((bat s 0) == 45)]) [fun _ => 0 ≤ (0 : Int) ∧ (0 : Int) < ln s] H4 (by kernel_rfl) ⟨ho5,trivial⟩ fun _ _ H7 hb => ?_
 replace hS:=hS.below hb
 obtain ⟨z8,hz,hm⟩:=bindE hm
 refine w_cut (fun a' w' => Fr 138 (fS [0,3,4,6,5] [vS s,vN,vI 3,vB ((bat s 0) == 45),vI z8]) a' ∧ SH M X w [] w') ?_ ?_
 ·replace hm:=hz
  obtain ⟨x9,hx9,hm⟩:=letE hm
  refine s_reg [] [0,3,4,5,6,19] (fS [0,3,4,5,6,19] [vS s,vN,vI 3,vI 0,vB ((bat s 0) == 45),vB x9]) [fun _ => 0 ≤ (0 : Int) ∧ (0 : Int) < ln s] H7 (by subst hx9; kernel_rfl) ⟨ho5,trivial⟩ fun _ _ H11 hb => ?_
  replace hS:=hS.below hb
  refine w_if H11 rfl (fun hc => ?_) (fun hc => ?c14)
  case c14 =>
   replace hm:=bF hc hm
   apply w_skip
   obtain rfl:=someE hm
   exact ⟨FrG.keep (ks:=[0,3,4,6,5]) H11 (by kernel_rfl),hS⟩
  replace hm:=bT hc hm
  refine w_reg [] [0,3,4,5,6] (fS [0,3,4,5,6] [vS s,vN,vI 3,vI 1,vB ((bat s 0) == 45)]) [] H11 (by kernel_rfl) trivial fun _ _ H13 hb => ?_
  replace hS:=hS.below hb
  obtain rfl:=someE hm
  exact ⟨FrG.keep (ks:=[0,3,4,6,5]) H13 (by kernel_rfl),hS⟩
 ·rintro _ _ ⟨H,hS⟩
  obtain ⟨z15,hz,hm⟩:=bindE hm
  refine w_cut (fun a' w' => Fr 138 (fS [0,4,6,3,5] [vS s,vI 3,vB ((bat s 0) == 45),vS z15.1,vI z15.2]) a' ∧ SH M X w [] w') ?_ ?_
  ·replace hm:=hz
   apply w_block
   refine w_loop (fun kk a' w' => ∃ (v16 : Str) (v17 : Int),r02_Thousandths_L1 m s kk v16 v17 = some _ ∧ Fr 138 (fS [0,4,6,3,5] [vS s,vI 3,vB ((bat s 0) == 45),vS v16,vI v17]) a' ∧ SH M X w [] w') ⟨_,[],z8,hm,FrG.keep (ks:=[0,4,6,3,5]) H (by kernel_rfl),hS⟩ ?_
   clear hm H hS
   rintro kk _ _ ⟨v16,v17,hm,H,hS⟩
   cases kk with
   | zero => exact noneE hm
   | succ kk =>
    rw [r02_Thousandths_L1] at hm
    apply w_seq
    obtain ⟨y18,hy18,hm⟩:=bindE hm
    refine s_reg [(vU y18),(vB (r02_Digit y18))] [0,3,4,5,6,25] (fS [0,3,4,5,6,25] [vS s,vS v16,vI 3,vI v17,vB ((bat s 0) == 45),vB (r02_Digit y18)]) [rB 120 [vS s,vI v17] (vU y18),rB 123 [vU y18] (vB (r02_Digit y18))] H (by kernel_rfl) ⟨((r02_At_ok _ _ _ hy18).b),((r02_Digit_ok _).b),trivial⟩ fun _ _ H20 hb => ?_
    replace hS:=hS.below hb
    refine w_if H20 rfl (fun hc => ?_) (fun hc => ?c27)
    case c27 =>
     replace hm:=bF hc hm
     apply w_exit rfl
     obtain rfl:=someE hm
     exact ⟨FrG.keep (ks:=[0,4,6,3,5]) H20 (by kernel_rfl),hS⟩
    replace hm:=bT hc hm
    apply w_skip
    apply w_seq
    apply w_block
    obtain ⟨ho21,hm⟩:=chkE hm
    obtain ⟨ho22,hm⟩:=chkE hm
    refine w_reg [] [0,3,4,5,6] (fS [0,3,4,5,6] [vS s,vS (v16 ++ (sub s v17 (w64 (v17 + 1)))),vI 3,vI v17,vB ((bat s 0) == 45)]) [fun _ => 0 ≤ v17 ∧ v17 ≤ (w64 (v17 + 1)) ∧ (w64 (v17 + 1)) ≤ ln s,fun _ => ln v16 + ln (sub s v17 (w64 (v17 + 1))) ≤ 9223372036854775807] H20 (by kernel_rfl) ⟨ho21,ho22,trivial⟩ fun _ _ H24 hb => ?_
    replace hS:=hS.below hb
    refine w_reg [] [0,3,4,5,6] (fS [0,3,4,5,6] [vS s,vS (v16 ++ (sub s v17 (w64 (v17 + 1)))),vI 3,vI (w64 (v17 + 1)),vB ((bat s 0) == 45)]) [] H24 (by kernel_rfl) trivial fun _ _ H26 hb => ?_
    replace hS:=hS.below hb
    exact ⟨_,Nat.lt_succ_self _,v16 ++ (sub s v17 (w64 (v17 + 1))),w64 (v17 + 1),hm,FrG.keep (ks:=[0,4,6,3,5]) H26 (by kernel_rfl),hS⟩
  ·rintro _ _ ⟨H,hS⟩
   obtain ⟨z29,hz,hm⟩:=bindE hm
   refine w_cut (fun a' w' => Fr 138 (fS [0,6,3,4,5] [vS s,vB ((bat s 0) == 45),vS z29.1,vI z29.2.1,vI z29.2.2]) a' ∧ SH M X w [] w') ?_ ?_
   ·replace hm:=hz
    obtain ⟨y30,hy30,hm⟩:=bindE hm
    refine s_reg [(vU y30)] [0,3,4,5,6,38] (fS [0,3,4,5,6,38] [vS s,vS z15.1,vI 3,vI z15.2,vB ((bat s 0) == 45),vB (y30 == 46)]) [rB 120 [vS s,vI z15.2] (vU y30)] H (by kernel_rfl) ⟨((r02_At_ok _ _ _ hy30).b),trivial⟩ fun _ _ H32 hb => ?_
    replace hS:=hS.below hb
    refine w_if H32 rfl (fun hc => ?_) (fun hc => ?c51)
    case c51 =>
     replace hm:=bF hc hm
     apply w_skip
     obtain rfl:=someE hm
     exact ⟨FrG.keep (ks:=[0,6,3,4,5]) H32 (by kernel_rfl),hS⟩
    replace hm:=bT hc hm
    refine s_reg [] [0,3,4,5,6] (fS [0,3,4,5,6] [vS s,vS z15.1,vI 3,vI (w64 (z15.2 + 1)),vB ((bat s 0) == 45)]) [] H32 (by kernel_rfl) trivial fun _ _ H34 hb => ?_
    replace hS:=hS.below hb
    apply w_block
    refine w_loop (fun kk a' w' => ∃ (v35 : Str) (v36 : Int) (v37 : Int),r02_Thousandths_L2 m s kk v35 v36 v37 = some _ ∧ Fr 138 (fS [0,6,3,4,5] [vS s,vB ((bat s 0) == 45),vS v35,vI v36,vI v37]) a' ∧ SH M X w [] w') ⟨_,z15.1,3,w64 (z15.2 + 1),hm,FrG.keep (ks:=[0,6,3,4,5]) H34 (by kernel_rfl),hS⟩ ?_
    clear hm H34 hS
    rintro kk _ _ ⟨v35,v36,v37,hm,H,hS⟩
    cases kk with
    | zero => exact noneE hm
    | succ kk =>
     rw [r02_Thousandths_L2] at hm
     apply w_seq
     obtain ⟨y38,hy38,hm⟩:=bindE hm
     refine s_reg [(vU y38),(vB (r02_Digit y38))] [0,3,4,5,6,44] (fS [0,3,4,5,6,44] [vS s,vS v35,vI v36,vI v37,vB ((bat s 0) == 45),vB (r02_Digit y38)]) [rB 120 [vS s,vI v37] (vU y38),rB 123 [vU y38] (vB (r02_Digit y38))] H (by kernel_rfl) ⟨((r02_At_ok _ _ _ hy38).b),((r02_Digit_ok _).b),trivial⟩ fun _ _ H40 hb => ?_
     replace hS:=hS.below hb
     refine w_if H40 rfl (fun hc => ?_) (fun hc => ?c49)
     case c49 =>
      replace hm:=bF hc hm
      apply w_exit rfl
      obtain rfl:=someE hm
      exact ⟨FrG.keep (ks:=[0,6,3,4,5]) H40 (by kernel_rfl),hS⟩
     replace hm:=bT hc hm
     apply w_skip
     apply w_seq
     apply w_block
     obtain ⟨ho41,hm⟩:=chkE hm
     obtain ⟨ho42,hm⟩:=chkE hm
     refine s_reg [] [0,3,4,5,6] (fS [0,3,4,5,6] [vS s,vS (v35 ++ (sub s v37 (w64 (v37 + 1)))),vI v36,vI v37,vB ((bat s 0) == 45)]) [fun _ => 0 ≤ v37 ∧ v37 ≤ (w64 (v37 + 1)) ∧ (w64 (v37 + 1)) ≤ ln s,fun _ => ln v35 + ln (sub s v37 (w64 (v37 + 1))) ≤ 9223372036854775807] H40 (by kernel_rfl) ⟨ho41,ho42,trivial⟩ fun _ _ H44 hb => ?_
     replace hS:=hS.below hb
     refine w_reg [] [0,3,4,5,6] (fS [0,3,4,5,6] [vS s,vS (v35 ++ (sub s v37 (w64 (v37 + 1)))),vI (w64 (v36 - 1)),vI v37,vB ((bat s 0) == 45)]) [] H44 (by kernel_rfl) trivial fun _ _ H46 hb => ?_
     replace hS:=hS.below hb
     refine w_reg [] [0,3,4,5,6] (fS [0,3,4,5,6] [vS s,vS (v35 ++ (sub s v37 (w64 (v37 + 1)))),vI (w64 (v36 - 1)),vI (w64 (v37 + 1)),vB ((bat s 0) == 45)]) [] H46 (by kernel_rfl) trivial fun _ _ H48 hb => ?_
     replace hS:=hS.below hb
     exact ⟨_,Nat.lt_succ_self _,v35 ++ (sub s v37 (w64 (v37 + 1))),w64 (v36 - 1),w64 (v37 + 1),hm,FrG.keep (ks:=[0,6,3,4,5]) H48 (by kernel_rfl),hS⟩
   ·rintro _ _ ⟨H,hS⟩
    obtain ⟨z52,hz,hm⟩:=bindE hm
    refine w_cut (fun a' w' => Fr 138 (fS [3,6,4] [vS z29.1,vB ((bat s 0) == 45),vI z52]) a' ∧ SH M X w [] w') ?_ ?_
    ·replace hm:=hz
     refine s_reg [] [0,3,4,5,6,59] (fS [0,3,4,5,6,59] [vS s,vS z29.1,vI z29.2.1,vI z29.2.2,vB ((bat s 0) == 45),vB (decide (z29.2.2 < (ln s)))]) [] H (by kernel_rfl) trivial fun _ _ H54 hb => ?_
     replace hS:=hS.below hb
     refine w_if H54 rfl (fun hc => ?_) (fun hc => ?c93)
     case c93 =>
      replace hm:=bF hc hm
      apply w_skip
      obtain rfl:=someE hm
      exact ⟨FrG.keep (ks:=[3,6,4]) H54 (by kernel_rfl),hS⟩
     replace hm:=bT hc hm
     refine s_reg [] [0,3,4,5,6] (fS [0,3,4,5,6] [vS s,vS z29.1,vI z29.2.1,vI (w64 (z29.2.2 + 1)),vB ((bat s 0) == 45)]) [] H54 (by kernel_rfl) trivial fun _ _ H56 hb => ?_
     replace hS:=hS.below hb
     obtain ⟨ho57,hm⟩:=chkE hm
     refine s_reg [] [0,3,4,5,6,7] (fS [0,3,4,5,6,7] [vS s,vS z29.1,vI z29.2.1,vI (w64 (z29.2.2 + 1)),vB ((bat s 0) == 45),vB ((bat s (w64 (z29.2.2 + 1))) == 45)]) [fun _ => 0 ≤ (w64 (z29.2.2 + 1)) ∧ (w64 (z29.2.2 + 1)) < ln s] H56 (by kernel_rfl) ⟨ho57,trivial⟩ fun _ _ H59 hb => ?_
     replace hS:=hS.below hb
     obtain ⟨z60,hz,hm⟩:=bindE hm
     refine w_cut (fun a' w' => Fr 138 (fS [0,3,4,6,7,5] [vS s,vS z29.1,vI z29.2.1,vB ((bat s 0) == 45),vB ((bat s (w64 (z29.2.2 + 1))) == 45),vI z60]) a' ∧ SH M X w [] w') ?_ ?_
     ·replace hm:=hz
      obtain ⟨x61,hx61,hm⟩:=letE hm
      refine s_reg [] [0,3,4,5,6,7,72] (fS [0,3,4,5,6,7,72] [vS s,vS z29.1,vI z29.2.1,vI (w64 (z29.2.2 + 1)),vB ((bat s 0) == 45),vB ((bat s (w64 (z29.2.2 + 1))) == 45),vB x61]) [fun _ => 0 ≤ (w64 (z29.2.2 + 1)) ∧ (w64 (z29.2.2 + 1)) < ln s] H59 (by subst hx61; kernel_rfl) ⟨ho57,trivial⟩ fun _ _ H63 hb => ?_
      replace hS:=hS.below hb
      refine w_if H63 rfl (fun hc => ?_) (fun hc => ?c66)
      case c66 =>
       replace hm:=bF hc hm
       apply w_skip
       obtain rfl:=someE hm
       exact ⟨FrG.keep (ks:=[0,3,4,6,7,5]) H63 (by kernel_rfl),hS⟩
      replace hm:=bT hc hm
      refine w_reg [] [0,3,4,5,6,7] (fS [0,3,4,5,6,7] [vS s,vS z29.1,vI z29.2.1,vI (w64 ((w64 (z29.2.2 + 1)) + 1)),vB ((bat s 0) == 45),vB ((bat s (w64 (z29.2.2 + 1))) == 45)]) [] H63 (by kernel_rfl) trivial fun _ _ H65 hb => ?_
      replace hS:=hS.below hb
      obtain rfl:=someE hm
      exact ⟨FrG.keep (ks:=[0,3,4,6,7,5]) H65 (by kernel_rfl),hS⟩
     ·rintro _ _ ⟨H,hS⟩
      refine s_reg [] [0,3,4,5,6,7,8] (fS [0,3,4,5,6,7,8] [vS s,vS z29.1,vI z29.2.1,vI z60,vB ((bat s 0) == 45),vB ((bat s (w64 (z29.2.2 + 1))) == 45),vI 0]) [] H (by kernel_rfl) trivial fun _ _ H68 hb => ?_
      replace hS:=hS.below hb
      obtain ⟨z69,hz,hm⟩:=bindE hm
      refine w_cut (fun a' w' => Fr 138 (fS [3,4,6,7,8] [vS z29.1,vI z29.2.1,vB ((bat s 0) == 45),vB ((bat s (w64 (z29.2.2 + 1))) == 45),vI z69]) a' ∧ SH M X w [] w') ?_ ?_
      ·replace hm:=hz
       apply w_block
       refine w_loop (fun kk a' w' => ∃ (v70 : Int) (v71 : Int),r02_Thousandths_L3 m s kk v70 v71 = some _ ∧ Fr 138 (fS [0,3,4,6,7,5,8] [vS s,vS z29.1,vI z29.2.1,vB ((bat s 0) == 45),vB ((bat s (w64 (z29.2.2 + 1))) == 45),vI v70,vI v71]) a' ∧ SH M X w [] w') ⟨_,z60,0,hm,FrG.keep (ks:=[0,3,4,6,7,5,8]) H68 (by kernel_rfl),hS⟩ ?_
       clear hm H68 hS
       rintro kk _ _ ⟨v70,v71,hm,H,hS⟩
       cases kk with
       | zero => exact noneE hm
       | succ kk =>
        rw [r02_Thousandths_L3] at hm
        apply w_seq
        refine s_reg [] [0,3,4,5,6,7,8,78] (fS [0,3,4,5,6,7,8,78] [vS s,vS z29.1,vI z29.2.1,vI v70,vB ((bat s 0) == 45),vB ((bat s (w64 (z29.2.2 + 1))) == 45),vI v71,vB (decide (v70 < (ln s)))]) [] H (by kernel_rfl) trivial fun _ _ H73 hb => ?_
        replace hS:=hS.below hb
        refine w_if H73 rfl (fun hc => ?_) (fun hc => ?c80)
        case c80 =>
         replace hm:=bF hc hm
         apply w_exit rfl
         obtain rfl:=someE hm
         exact ⟨FrG.keep (ks:=[3,4,6,7,8]) H73 (by kernel_rfl),hS⟩
        replace hm:=bT hc hm
        apply w_skip
        apply w_seq
        apply w_block
        obtain ⟨ho74,hm⟩:=chkE hm
        obtain ⟨x75,hx75,hm⟩:=letE hm
        refine w_reg [] [0,3,4,5,6,7,8] (fS [0,3,4,5,6,7,8] [vS s,vS z29.1,vI z29.2.1,vI v70,vB ((bat s 0) == 45),vB ((bat s (w64 (z29.2.2 + 1))) == 45),vI (if x75 < 10000 then x75 else 10000)]) [fun _ => 0 ≤ v70 ∧ v70 < ln s] H73 (by subst hx75; kernel_rfl) ⟨ho74,trivial⟩ fun _ _ H77 hb => ?_
        replace hS:=hS.below hb
        refine w_reg [] [0,3,4,5,6,7,8] (fS [0,3,4,5,6,7,8] [vS s,vS z29.1,vI z29.2.1,vI (w64 (v70 + 1)),vB ((bat s 0) == 45),vB ((bat s (w64 (z29.2.2 + 1))) == 45),vI (if x75 < 10000 then x75 else 10000)]) [] H77 (by kernel_rfl) trivial fun _ _ H79 hb => ?_
        replace hS:=hS.below hb
        exact ⟨_,Nat.lt_succ_self _,w64 (v70 + 1),if x75 < 10000 then x75 else 10000,hm,FrG.keep (ks:=[0,3,4,6,7,5,8]) H79 (by kernel_rfl),hS⟩
      ·rintro _ _ ⟨H,hS⟩
       obtain ⟨z82,hz,hm⟩:=bindE hm
       refine w_cut (fun a' w' => Fr 138 (fS [3,4,6,8] [vS z29.1,vI z29.2.1,vB ((bat s 0) == 45),vI z82]) a' ∧ SH M X w [] w') ?_ ?_
       ·replace hm:=hz
        refine s_reg [] [3,4,6,8,90] (fS [3,4,6,8,90] [vS z29.1,vI z29.2.1,vB ((bat s 0) == 45),vI z69,vB ((bat s (w64 (z29.2.2 + 1))) == 45)]) [] H (by kernel_rfl) trivial fun _ _ H84 hb => ?_
        replace hS:=hS.below hb
        refine w_if H84 rfl (fun hc => ?_) (fun hc => ?c87)
        case c87 =>
         replace hm:=bF hc hm
         apply w_skip
         obtain rfl:=someE hm
         exact ⟨FrG.keep (ks:=[3,4,6,8]) H84 (by kernel_rfl),hS⟩
        replace hm:=bT hc hm
        refine w_reg [] [3,4,6,8] (fS [3,4,6,8] [vS z29.1,vI z29.2.1,vB ((bat s 0) == 45),vI (w64 (0 - z69))]) [] H84 (by kernel_rfl) trivial fun _ _ H86 hb => ?_
        replace hS:=hS.below hb
        obtain rfl:=someE hm
        exact ⟨FrG.keep (ks:=[3,4,6,8]) H86 (by kernel_rfl),hS⟩
       ·rintro _ _ ⟨H,hS⟩
        refine w_reg [] [3,4,6] (fS [3,4,6] [vS z29.1,vI (w64 (z29.2.1 + z82)),vB ((bat s 0) == 45)]) [] H (by kernel_rfl) trivial fun _ _ H89 hb => ?_
        replace hS:=hS.below hb
        obtain rfl:=someE hm
        exact ⟨FrG.keep (ks:=[3,6,4]) H89 (by kernel_rfl),hS⟩
    ·rintro _ _ ⟨H,hS⟩
     refine s_reg [] [3,4,6,9] (fS [3,4,6,9] [vS z29.1,vI z52,vB ((bat s 0) == 45),vI 0]) [] H (by kernel_rfl) trivial fun _ _ H95 hb => ?_
     replace hS:=hS.below hb
     obtain ⟨z96,hz,hm⟩:=bindE hm
     refine w_cut (fun a' w' => Fr 138 (fS [4,6,9] [vI z52,vB ((bat s 0) == 45),vI z96]) a' ∧ SH M X w [] w') ?_ ?_
     ·replace hm:=hz
      refine s_reg [] [3,4,6,9,10] (fS [3,4,6,9,10] [vS z29.1,vI z52,vB ((bat s 0) == 45),vI 0,vI 0]) [] H95 (by kernel_rfl) trivial fun _ _ H98 hb => ?_
      replace hS:=hS.below hb
      apply w_block
      refine w_loop (fun kk a' w' => ∃ (v99 : Int) (v100 : Int),r02_Thousandths_L4 m z29 z52 kk v99 v100 = some _ ∧ Fr 138 (fS [3,4,6,9,10] [vS z29.1,vI z52,vB ((bat s 0) == 45),vI v99,vI v100]) a' ∧ SH M X w [] w') ⟨_,0,0,hm,FrG.keep (ks:=[3,4,6,9,10]) H98 (by kernel_rfl),hS⟩ ?_
      clear hm H98 hS
      rintro kk _ _ ⟨v99,v100,hm,H,hS⟩
      cases kk with
      | zero => exact noneE hm
      | succ kk =>
       rw [r02_Thousandths_L4] at hm
       apply w_seq
       obtain ⟨x101,hx101,hm⟩:=letE hm
       refine s_reg [] [3,4,6,9,10,107] (fS [3,4,6,9,10,107] [vS z29.1,vI z52,vB ((bat s 0) == 45),vI v99,vI v100,vB x101]) [] H (by subst hx101; kernel_rfl) trivial fun _ _ H103 hb => ?_
       replace hS:=hS.below hb
       refine w_if H103 rfl (fun hc => ?_) (fun hc => ?c111)
       case c111 =>
        replace hm:=bF hc hm
        apply w_exit rfl
        obtain rfl:=someE hm
        exact ⟨FrG.keep (ks:=[4,6,9]) H103 (by kernel_rfl),hS⟩
       replace hm:=bT hc hm
       apply w_skip
       apply w_seq
       apply w_block
       obtain ⟨ho104,hm⟩:=chkE hm
       obtain ⟨x105,hx105,hm⟩:=letE hm
       obtain ⟨x106,hx106,hm⟩:=letE hm
       refine w_reg [] [3,4,6,9,10] (fS [3,4,6,9,10] [vS z29.1,vI z52,vB ((bat s 0) == 45),vI x106,vI v100]) [fun _ => 0 ≤ v100 ∧ v100 < ln z29.1] H103 (by subst hx105 hx106; kernel_rfl) ⟨ho104,trivial⟩ fun _ _ H108 hb => ?_
       replace hS:=hS.below hb
       refine w_reg [] [3,4,6,9,10] (fS [3,4,6,9,10] [vS z29.1,vI z52,vB ((bat s 0) == 45),vI x106,vI (w64 (v100 + 1))]) [] H108 (by kernel_rfl) trivial fun _ _ H110 hb => ?_
       replace hS:=hS.below hb
       exact ⟨_,Nat.lt_succ_self _,x106,w64 (v100 + 1),hm,FrG.keep (ks:=[3,4,6,9,10]) H110 (by kernel_rfl),hS⟩
     ·rintro _ _ ⟨H,hS⟩
      obtain ⟨z113,hz,hm⟩:=bindE hm
      refine w_cut (fun a' w' => Fr 138 (fS [6,9] [vB ((bat s 0) == 45),vI z113]) a' ∧ SH M X w [] w') ?_ ?_
      ·replace hm:=hz
       apply w_block
       refine w_loop (fun kk a' w' => ∃ (v114 : Int) (v115 : Int),r02_Thousandths_L5 m  kk v114 v115 = some _ ∧ Fr 138 (fS [6,4,9] [vB ((bat s 0) == 45),vI v114,vI v115]) a' ∧ SH M X w [] w') ⟨_,z52,z96,hm,FrG.keep (ks:=[6,4,9]) H (by kernel_rfl),hS⟩ ?_
       clear hm H hS
       rintro kk _ _ ⟨v114,v115,hm,H,hS⟩
       cases kk with
       | zero => exact noneE hm
       | succ kk =>
        rw [r02_Thousandths_L5] at hm
        apply w_seq
        obtain ⟨x116,hx116,hm⟩:=letE hm
        obtain ⟨x117,hx117,hm⟩:=letE hm
        refine s_reg [] [4,6,9,128] (fS [4,6,9,128] [vI v114,vB ((bat s 0) == 45),vI v115,vB x117]) [] H (by subst hx116 hx117; kernel_rfl) trivial fun _ _ H119 hb => ?_
        replace hS:=hS.below hb
        refine w_if H119 rfl (fun hc => ?_) (fun hc => ?c125)
        case c125 =>
         replace hm:=bF hc hm
         apply w_exit rfl
         obtain rfl:=someE hm
         exact ⟨FrG.keep (ks:=[6,9]) H119 (by kernel_rfl),hS⟩
        replace hm:=bT hc hm
        apply w_skip
        apply w_seq
        apply w_block
        obtain ⟨x120,hx120,hm⟩:=letE hm
        refine w_reg [] [4,6,9] (fS [4,6,9] [vI v114,vB ((bat s 0) == 45),vI x120]) [] H119 (by subst hx120; kernel_rfl) trivial fun _ _ H122 hb => ?_
        replace hS:=hS.below hb
        refine w_reg [] [4,6,9] (fS [4,6,9] [vI (w64 (v114 - 1)),vB ((bat s 0) == 45),vI x120]) [] H122 (by kernel_rfl) trivial fun _ _ H124 hb => ?_
        replace hS:=hS.below hb
        exact ⟨_,Nat.lt_succ_self _,w64 (v114 - 1),x120,hm,FrG.keep (ks:=[6,4,9]) H124 (by kernel_rfl),hS⟩
      ·rintro _ _ ⟨H,hS⟩
       apply w_seq
       refine s_reg [] [9,134] (fS [9,134] [vI z113,vB ((bat s 0) == 45)]) [] H (by kernel_rfl) trivial fun _ _ H128 hb => ?_
       replace hS:=hS.below hb
       refine w_if H128 rfl (fun hc => ?c133) (fun hc => ?_)
       case c133 =>
        replace hm:=bT hc hm
        refine s_reg [] [2] [(2,[],vI (w64 (0 - z113)))] [] H128 (by kernel_rfl) trivial fun _ _ H130 hb => ?_
        replace hS:=hS.below hb
        apply w_ret
        obtain rfl:=someE hm
        exact retR1 H130 rfl rfl ⟨_,rfl,rfl,(hS.sel [] rfl)⟩
       replace hm:=bF hc hm
       apply w_skip
       refine s_reg [] [2] [(2,[],vI z113)] [] H128 (by kernel_rfl) trivial fun _ _ H132 hb => ?_
       replace hS:=hS.below hb
       apply w_ret
       obtain rfl:=someE hm
       exact retR1 H132 rfl rfl ⟨_,rfl,rfl,(hS.sel [] rfl)⟩
theorem r02_Thousandths_ok  (m : Nat) (s : Str) (r : Int) (hm : r02_Thousandths m s = some r) : Ret Tryz.prog 125 ⟨[vS s]⟩ (vI r):=retP_of (Tryz.call125 _) (fun w h => r02_Thousandths_w F0 m   s r hm w h)

theorem r02_numeric_w  (M : Av) (m : Nat) (s : Str) (i : Int) (r : TToken × Int) (hm : r02_numeric m s i = some r) (w : World) (hS : S0 M [] w) : Calls Tryz.prog 110 ⟨[vS s,vI i]⟩ w (fun e w' => ∃ v,e = .returned v ∧ v = vW [vG (cT r.1),vI r.2] ∧ SH M (fpl []) w [] w'):=by
 rw [r02_numeric] at hm
 have hS0 : SH M (fpl []) w [] w:=hS
 generalize hX : fpl [] = X at hS0 ⊢
 clear hS hX
 have hS:=hS0
 clear hS0
 refine calls_entryP Tryz.func110 rfl Tryz.ntmps110 rfl fun _ H => ?_
 apply w_seq
 apply wl_start
 have hd:=hS.hand [] [] rfl rfl
 refine m_stp [4,0,1] (fS [0,1] [vS s,vI i]) H rfl rfl rfl rfl (o_alloc [vU 0,vN,vI 0,vN,vF] (z:=vG [vU 0,vN,vI 0,vN,vF]) hd (by kernel_rfl) rfl) (fun _ => rfl) fun _ _ v H3 hq => ?_
 obtain ⟨b1,rfl,hq⟩:=hq
 replace hS : SH M X w [eB b1 [vU 0,vN,vI 0,vN,vF]] _:=hS.join [] [] rfl rfl hq
 refine wl_batch 1 2 [] [0,1,4] (fS [0,1,4] [vS s,vI i,vP b1]) [] H3 (by decide) (by kernel_rfl) trivial fun _ _ H5 hb => ?_
 replace hS:=hS.below hb
 apply wl_end rfl
 obtain ⟨y6,hy6,hm⟩:=bindE hm
 refine s_reg [(vW [vI y6.1,vB y6.2])] [0,1,4,6,7] (fS [0,1,4,6,7] [vS s,vI i,vP b1,vI y6.1,vB y6.2]) [rB 124 [vS s,vI i] (vW [vI y6.1,vB y6.2])] H5 (by kernel_rfl) ⟨((r02_NumberEnd_ok m _ _ _ hy6).b),trivial⟩ fun _ _ H8 hb => ?_
 replace hS:=hS.below hb
 apply w_seq
 apply wl_start
 obtain ⟨ho9,hm⟩:=chkE hm
 obtain ⟨y10,hy10,hm⟩:=bindE hm
 refine wl_batch 0 7 [(vI y10)] [0,4,6,21] (fS [0,4,6,21] [vS s,vP b1,vI y6.1,vG [vU 10,vN,vI y10,vN,vB y6.2]]) [fun _ => 0 ≤ i ∧ i ≤ y6.1 ∧ y6.1 ≤ ln s,rB 125 [vS (sub s i y6.1)] (vI y10)] H8 (by decide) (by kernel_rfl) ⟨ho9,((r02_Thousandths_ok m _ _ hy10).b),trivial⟩ fun _ _ H12 hb => ?_
 replace hS:=hS.below hb
 have hd:=hS.hand [] [0] rfl rfl
 refine m_stp [8,0,4,6,21] (fS [0,4,6,21] [vS s,vP b1,vI y6.1,vG [vU 10,vN,vI y10,vN,vB y6.2]]) H12 rfl rfl rfl rfl (o_alloc [vU 0,vN,vI 0,vN,vF] (z:=vG [vU 0,vN,vI 0,vN,vF]) hd (by kernel_rfl) rfl) (fun _ => rfl) fun _ _ v H15 hq => ?_
 obtain ⟨b13,rfl,hq⟩:=hq
 replace hS : SH M X w [eB b13 [vU 0,vN,vI 0,vN,vF],eB b1 [vU 0,vN,vI 0,vN,vF]] _:=hS.join [] [0] rfl rfl hq
 have hd:=hS.hand [0] [1] rfl rfl
 refine m_stp0 [0,4,6,8] (fS [0,4,6,8] [vS s,vP b1,vI y6.1,vP b13]) H15 rfl rfl rfl (o_store [vU 10,vN,vI y10,vN,vB y6.2] H15 hd rfl rfl (by kernel_rfl) rfl rfl rfl) rfl fun _ _ H17 hq => ?_
 obtain ⟨_,hq⟩:=hq
 replace hS : SH M X w [eB b13 [vU 10,vN,vI y10,vN,vB y6.2],eB b1 [vU 0,vN,vI 0,vN,vF]] _:=hS.join [0] [1] rfl rfl hq
 apply wl_end rfl
 obtain ⟨z18,hz,hm⟩:=bindE hm
 refine w_cut (fun a' w' => Fr 43 (fS [4,8,6] [vP b1,vP b13,vI z18.1]) a' ∧ SH M X w [eB b13 [vU z18.2.1,vN,vI y10,vS z18.2.2.1,vB z18.2.2.2],eB b1 [vU 0,vN,vI 0,vN,vF]] w') ?_ ?_
 ·replace hm:=hz
  obtain ⟨y19,hy19,hm⟩:=bindE hm
  refine s_reg [(vB y19)] [0,4,6,8,24] (fS [0,4,6,8,24] [vS s,vP b1,vI y6.1,vP b13,vB y19]) [rB 108 [vS s,vI y6.1] (vB y19)] H17 (by kernel_rfl) ⟨((r02_NameAt_ok _ _ _ hy19).b),trivial⟩ fun _ _ H21 hb => ?_
  replace hS:=hS.below hb
  refine w_if H21 rfl (fun hc => ?c47) (fun hc => ?_)
  case c47 =>
   replace hm:=bT hc hm
   apply w_seq
   apply wl_start
   refine wl_batch 0 1 [] [0,4,6,8,25] (fS [0,4,6,8,25] [vS s,vP b1,vI y6.1,vP b13,vP b13]) [] H21 (by decide) (by kernel_rfl) trivial fun _ _ H23 hb => ?_
   replace hS:=hS.below hb
   have hd:=hS.hand [0] [1] rfl rfl
   refine m_stp0 [0,4,6,8] (fS [0,4,6,8] [vS s,vP b1,vI y6.1,vP b13]) H23 rfl rfl rfl (o_store [vU 12,vN,vI y10,vN,vB y6.2] H23 hd rfl rfl (by kernel_rfl) rfl rfl rfl) rfl fun _ _ H25 hq => ?_
   obtain ⟨_,hq⟩:=hq
   replace hS : SH M X w [eB b13 [vU 12,vN,vI y10,vN,vB y6.2],eB b1 [vU 0,vN,vI 0,vN,vF]] _:=hS.join [0] [1] rfl rfl hq
   apply wl_end rfl
   apply wl_start
   obtain ⟨y26,hy26,hm⟩:=bindE hm
   refine wl_batch 0 7 [(vW [vS y26.1,vI y26.2])] [4,8,30,31,32] (fS [4,8,30,31,32] [vP b1,vP b13,vS y26.1,vI y26.2,vA b13 3]) [rB 107 [vS s,vI y6.1] (vW [vS y26.1,vI y26.2])] H25 (by decide) (by kernel_rfl) ⟨((r02_Named_ok m _ _ _ hy26).b),trivial⟩ fun _ _ H28 hb => ?_
   replace hS:=hS.below hb
   have hd:=hS.hand [0] [1] rfl rfl
   refine m_stp0 [4,8,31] (fS [4,8,31] [vP b1,vP b13,vI y26.2]) H28 rfl rfl rfl (o_store [vU 12,vN,vI y10,vS y26.1,vB y6.2] H28 hd rfl rfl (by kernel_rfl) rfl rfl rfl) rfl fun _ _ H30 hq => ?_
   obtain ⟨_,hq⟩:=hq
   replace hS : SH M X w [eB b13 [vU 12,vN,vI y10,vS y26.1,vB y6.2],eB b1 [vU 0,vN,vI 0,vN,vF]] _:=hS.join [0] [1] rfl rfl hq
   refine wl_batch 8 9 [] [4,6,8] (fS [4,6,8] [vP b1,vI y26.2,vP b13]) [] H30 (by decide) (by kernel_rfl) trivial fun _ _ H32 hb => ?_
   replace hS:=hS.below hb
   apply wl_end rfl
   obtain rfl:=someE hm
   exact ⟨FrG.keep (ks:=[4,8,6]) H32 (by kernel_rfl),hS⟩
  replace hm:=bF hc hm
  obtain ⟨y33,hy33,hm⟩:=bindE hm
  refine s_reg [(vU y33)] [4,6,8,36] (fS [4,6,8,36] [vP b1,vI y6.1,vP b13,vB (y33 == 37)]) [rB 120 [vS s,vI y6.1] (vU y33)] H21 (by kernel_rfl) ⟨((r02_At_ok _ _ _ hy33).b),trivial⟩ fun _ _ H35 hb => ?_
  replace hS:=hS.below hb
  refine w_if H35 rfl (fun hc => ?_) (fun hc => ?c46)
  case c46 =>
   replace hm:=bF hc hm
   apply w_skip
   obtain rfl:=someE hm
   exact ⟨FrG.keep (ks:=[4,8,6]) H35 (by kernel_rfl),hS⟩
  replace hm:=bT hc hm
  apply w_seq
  apply wl_start
  refine wl_batch 0 1 [] [4,6,8,37] (fS [4,6,8,37] [vP b1,vI y6.1,vP b13,vP b13]) [] H35 (by decide) (by kernel_rfl) trivial fun _ _ H37 hb => ?_
  replace hS:=hS.below hb
  have hd:=hS.hand [0] [1] rfl rfl
  refine m_stp0 [4,6,8] (fS [4,6,8] [vP b1,vI y6.1,vP b13]) H37 rfl rfl rfl (o_store [vU 11,vN,vI y10,vN,vB y6.2] H37 hd rfl rfl (by kernel_rfl) rfl rfl rfl) rfl fun _ _ H39 hq => ?_
  obtain ⟨_,hq⟩:=hq
  replace hS : SH M X w [eB b13 [vU 11,vN,vI y10,vN,vB y6.2],eB b1 [vU 0,vN,vI 0,vN,vF]] _:=hS.join [0] [1] rfl rfl hq
  refine wl_batch 2 3 [] [4,6,8,38] (fS [4,6,8,38] [vP b1,vI y6.1,vP b13,vA b13 4]) [] H39 (by decide) (by kernel_rfl) trivial fun _ _ H41 hb => ?_
  replace hS:=hS.below hb
  have hd:=hS.hand [0] [1] rfl rfl
  refine m_stp0 [4,6,8] (fS [4,6,8] [vP b1,vI y6.1,vP b13]) H41 rfl rfl rfl (o_store [vU 11,vN,vI y10,vN,vF] H41 hd rfl rfl (by kernel_rfl) rfl rfl rfl) rfl fun _ _ H43 hq => ?_
  obtain ⟨_,hq⟩:=hq
  replace hS : SH M X w [eB b13 [vU 11,vN,vI y10,vN,vF],eB b1 [vU 0,vN,vI 0,vN,vF]] _:=hS.join [0] [1] rfl rfl hq
  apply wl_end rfl
  refine w_reg [] [4,6,8] (fS [4,6,8] [vP b1,vI (w64 (y6.1 + 1)),vP b13]) [] H43 (by kernel_rfl) trivial fun _ _ H45 hb => ?_
  replace hS:=hS.below hb
  obtain rfl:=someE hm
  exact ⟨FrG.keep (ks:=[4,8,6]) H45 (by kernel_rfl),hS⟩
 ·rintro _ _ ⟨H,hS⟩
  apply w_seq
  apply wl_start
  refine wl_batch 0 2 [(vG [vU z18.2.1,vN,vI y10,vS z18.2.2.1,vB z18.2.2.2])] [4,41,42] (fS [4,41,42] [vP b1,vG [vU z18.2.1,vN,vI y10,vS z18.2.2.1,vB z18.2.2.2],vI z18.1]) [rN b13 0 [vU z18.2.1,vN,vI y10,vS z18.2.2.1,vB z18.2.2.2]] H (by decide) (by kernel_rfl) ⟨((hS.bk 0 rfl).atD rfl),trivial⟩ fun _ _ H49 hb => ?_
  replace hS:=hS.below hb
  have hd:=hS.hand [1] [0] rfl rfl
  refine m_stp0 [4,42] (fS [4,42] [vP b1,vI z18.1]) H49 rfl rfl rfl (o_store [vU z18.2.1,vN,vI y10,vS z18.2.2.1,vB z18.2.2.2] H49 hd rfl rfl (by kernel_rfl) rfl rfl rfl) rfl fun _ _ H51 hq => ?_
  obtain ⟨_,hq⟩:=hq
  replace hS : SH M X w [eB b1 [vU z18.2.1,vN,vI y10,vS z18.2.2.1,vB z18.2.2.2],eB b13 [vU z18.2.1,vN,vI y10,vS z18.2.2.1,vB z18.2.2.2]] _:=hS.join [1] [0] rfl rfl hq
  refine wl_batch 3 4 [] [4,5] (fS [4,5] [vP b1,vI z18.1]) [] H51 (by decide) (by kernel_rfl) trivial fun _ _ H53 hb => ?_
  replace hS:=hS.below hb
  apply wl_end rfl
  replace hS : SH M X w [eB b1 [vU z18.2.1,vN,vI y10,vS z18.2.2.1,vB z18.2.2.2]] _:=hS.sel [0] rfl
  apply w_ret
  obtain rfl:=someE hm
  exact retR2 H53 rfl (oneRes_agg rfl (hS.bk 0 rfl) Tryz.underlying49 rfl (by kernel_rfl)) rfl ⟨_,rfl,rfl,(hS.sel [] rfl)⟩
theorem r02_numeric_ok  (m : Nat) (s : Str) (i : Int) (r : TToken × Int) (hm : r02_numeric m s i = some r) : Ret Tryz.prog 110 ⟨[vS s,vI i]⟩ (vW [vG (cT r.1),vI r.2]):=retP_of (Tryz.call110 _) (fun w h => r02_numeric_w F0 m   s i r hm w h)

theorem r01_Lower_w  (M : Av) (m : Nat) (s : Str) (r : Str) (hm : r01_Lower m s = some r) (w : World) (hS : S0 M [] w) : Calls Tryz.prog 143 ⟨[vS s]⟩ w (fun e w' => ∃ v,e = .returned v ∧ v = vS r ∧ SH M (fpl []) w [] w'):=by
 rw [r01_Lower] at hm
 have hS0 : SH M (fpl []) w [] w:=hS
 generalize hX : fpl [] = X at hS0 ⊢
 clear hS hX
 have hS:=hS0
 clear hS0
 refine calls_entryP Tryz.func143 rfl Tryz.ntmps143 rfl fun _ H => ?_
 refine s_reg [] [0] [(0,[],vS s)] [] H (by kernel_rfl) trivial fun _ _ H2 hb => ?_
 replace hS:=hS.below hb
 apply w_seq
 apply wl_start
 refine wl_batch 0 1 [] [5] [(5,[],vS s)] [] H2 (by decide) (by kernel_rfl) trivial fun _ _ H4 hb => ?_
 replace hS:=hS.below hb
 have hd:=hS.hand [] [] rfl rfl
 refine m_stp [6] [] H4 rfl rfl rfl rfl (o_bytes (E:=5) H4 hd rfl (by kernel_rfl) (by kernel_rfl) (by kernel_rfl)) (fun _ => rfl) fun _ _ v H8 hq => ?_
 obtain ⟨b5,c6,rfl,hc_b5,hq⟩:=hq
 replace hS : SH M X w [Ent.row .u8 b5 (ofB s) (ln (ofB s))] _:=hS.join [] [] rfl rfl hq
 refine wl_batch 2 3 [] [3] [(3,[],.slice (some ⟨b5,0,none⟩) ((ofB s).length) c6)] [] H8 (by decide) (by kernel_rfl) trivial fun _ _ H10 hb => ?_
 replace hS:=hS.below hb
 apply wl_end rfl
 obtain ⟨z11,hz,hm⟩:=bindE hm
 refine w_cut (fun a' w' => Fr 23 [(3,[],.slice (some ⟨b5,0,none⟩) ((ofB s).length) c6)] a' ∧ SH M X w [Ent.row .u8 b5 z11 (ln (ofB s))] w') ?_ ?_
 ·replace hm:=hz
  refine s_reg [] [3,4] (fS [3,4] [.slice (some ⟨b5,0,none⟩) ((ofB s).length) c6,vI 0]) [] H10 (by kernel_rfl) trivial fun _ _ H13 hb => ?_
  replace hS:=hS.below hb
  apply w_block
  refine w_loop (fun kk a' w' => ∃ (v14 : Int) (v15 : List Int),r01_Lower_L1 m s kk v14 v15 = some _ ∧ Fr 23 (fS [3,4] [.slice (some ⟨b5,0,none⟩) ((ofB s).length) c6,vI v14]) a' ∧ SH M X w [Ent.row .u8 b5 v15 (ln (ofB s))] w') ⟨_,0,ofB s,hm,FrG.keep (ks:=[3,4]) H13 (by kernel_rfl),hS⟩ ?_
  clear hm H13 hS
  rintro kk _ _ ⟨v14,v15,hm,H,hS⟩
  cases kk with
  | zero => exact noneE hm
  | succ kk =>
   rw [r01_Lower_L1] at hm
   apply w_seq
   refine s_reg [] [3,4,10] (fS [3,4,10] [.slice (some ⟨b5,0,none⟩) ((ofB s).length) c6,vI v14,vB (decide (v14 < (ln (ofB s))))]) [] H (by kernel_rfl) trivial fun _ _ H17 hb => ?_
   replace hS:=hS.below hb
   refine w_if H17 rfl (fun hc => ?_) (fun hc => ?c26)
   case c26 =>
    replace hm:=bF hc hm
    apply w_exit rfl
    obtain rfl:=someE hm
    exact ⟨FrG.keep (ks:=[3]) H17 (by kernel_rfl),hS⟩
   replace hm:=bT hc hm
   apply w_skip
   apply w_seq
   apply w_block
   apply wl_start
   obtain ⟨ho18,hm⟩:=chkE hm
   refine wl_batch 0 8 [(vU (gi v15 v14)),(vU (r01_Small (gi v15 v14)))] [3,4,19,20] (fS [3,4,19,20] [.slice (some ⟨b5,0,none⟩) ((ofB s).length) c6,vI v14,vU (r01_Small (gi v15 v14)),.pointer (some ⟨b5,0 + (v14).toNat * 1,none⟩)]) [fun _ => oka (some ⟨b5,0,none⟩) ∧ 0 ≤ v14 ∧ v14 < ln (ofB s),fun wz => V.at1 ⟨b5,0 + (v14).toNat * 1,none⟩ (vU (gi v15 v14)) wz,rB 141 [vU (gi v15 v14)] (vU (r01_Small (gi v15 v14))),fun _ => oka (some ⟨b5,0,none⟩) ∧ 0 ≤ v14 ∧ v14 < ln (ofB s)] H17 (by decide) (by kernel_rfl) ⟨(⟨rfl,ho18⟩),(Rw.ixn (hS.rw 0 rfl) ho18),((r01_Small_ok _).b),(⟨rfl,ho18⟩),trivial⟩ fun _ _ H20 hb => ?_
   replace hS:=hS.below hb
   have hd:=hS.hand [0] [] rfl rfl
   refine m_stp0 [3,4] (fS [3,4] [.slice (some ⟨b5,0,none⟩) ((ofB s).length) c6,vI v14]) H20 rfl rfl rfl (o_rstore H20 hd rfl rfl (by kernel_rfl) ho18) rfl fun _ _ H22 hq => ?_
   obtain ⟨_,hq⟩:=hq
   obtain ⟨q23,hq23,hm⟩:=letE hm
   rw [← hq23] at hq
   replace hS : SH M X w [Ent.row .u8 b5 q23 (ln (ofB s))] _:=hS.join [0] [] rfl rfl hq
   apply wl_end rfl
   refine w_reg [] [3,4] (fS [3,4] [.slice (some ⟨b5,0,none⟩) ((ofB s).length) c6,vI (w64 (v14 + 1))]) [] H22 (by kernel_rfl) trivial fun _ _ H25 hb => ?_
   replace hS:=hS.below hb
   exact ⟨_,Nat.lt_succ_self _,w64 (v14 + 1),q23,hm,FrG.keep (ks:=[3,4]) H25 (by kernel_rfl),hS⟩
 ·rintro _ _ ⟨H,hS⟩
  refine s_reg [(vS (toB z11))] [2] [(2,[],vS (toB z11))] [fun wz => ∀ w',Below wz.heap.size wz w' → (convert 98 9 (.slice (some ⟨b5,0,none⟩) ((ofB s).length) c6)).run Tryz.prog w' = .ok (vS (toB z11)) w'] H (by kernel_rfl) ⟨(conv_row (E:=5) (by kernel_rfl) (by kernel_rfl) (by kernel_rfl) (hS.rw 0 rfl).1 (hS.rw 0 rfl).2),trivial⟩ fun _ _ H29 hb => ?_
  replace hS:=hS.below hb
  replace hS : SH M X w [] _:=hS.sel [] rfl
  apply w_ret
  obtain rfl:=someE hm
  exact retR1 H29 rfl rfl ⟨_,rfl,rfl,(hS.sel [] rfl)⟩
theorem r01_Lower_ok  (m : Nat) (s : Str) (r : Str) (hm : r01_Lower m s = some r) : Ret Tryz.prog 143 ⟨[vS s]⟩ (vS r):=retP_of (Tryz.call143 _) (fun w h => r01_Lower_w F0 m   s r hm w h)

theorem r01_Alike_w  (M : Av) (m : Nat) (a_ : Str) (b_ : Str) (r : Bool) (hm : r01_Alike m a_ b_ = some r) (w : World) (hS : S0 M [] w) : Calls Tryz.prog 126 ⟨[vS a_,vS b_]⟩ w (fun e w' => ∃ v,e = .returned v ∧ v = vB r ∧ SH M (fpl []) w [] w'):=by
 rw [r01_Alike] at hm
 have hS0 : SH M (fpl []) w [] w:=hS
 generalize hX : fpl [] = X at hS0 ⊢
 clear hS hX
 have hS:=hS0
 clear hS0
 refine calls_entryP Tryz.func126 rfl Tryz.ntmps126 rfl fun _ H => ?_
 refine s_reg [] [0,1] (fS [0,1] [vS a_,vS b_]) [] H (by kernel_rfl) trivial fun _ _ H2 hb => ?_
 replace hS:=hS.below hb
 obtain ⟨y3,hy3,hm⟩:=bindE hm
 obtain ⟨y4,hy4,hm⟩:=bindE hm
 refine s_reg [(vS y3),(vS y4)] [4] [(4,[],vB (y3 == y4))] [rB 143 [vS a_] (vS y3),rB 143 [vS b_] (vS y4)] H2 (by kernel_rfl) ⟨((r01_Lower_ok m _ _ hy3).b),((r01_Lower_ok m _ _ hy4).b),trivial⟩ fun _ _ H6 hb => ?_
 replace hS:=hS.below hb
 apply w_ret
 obtain rfl:=someE hm
 exact retR1 H6 rfl rfl ⟨_,rfl,rfl,(hS.sel [] rfl)⟩
theorem r01_Alike_ok  (m : Nat) (a_ : Str) (b_ : Str) (r : Bool) (hm : r01_Alike m a_ b_ = some r) : Ret Tryz.prog 126 ⟨[vS a_,vS b_]⟩ (vB r):=retP_of (Tryz.call126 _) (fun w h => r01_Alike_w F0 m   a_ b_ r hm w h)

theorem r02_bad_w  (M : Av) (m : Nat) (s : Str) (i : Int) (r : TToken × Int) (hm : r02_bad m s i = some r) (w : World) (hS : S0 M [] w) : Calls Tryz.prog 144 ⟨[vS s,vI i]⟩ w (fun e w' => ∃ v,e = .returned v ∧ v = vW [vG (cT r.1),vI r.2] ∧ SH M (fpl []) w [] w'):=by
 rw [r02_bad] at hm
 have hS0 : SH M (fpl []) w [] w:=hS
 generalize hX : fpl [] = X at hS0 ⊢
 clear hS hX
 have hS:=hS0
 clear hS0
 refine calls_entryP Tryz.func144 rfl Tryz.ntmps144 rfl fun _ H => ?_
 apply w_seq
 apply wl_start
 have hd:=hS.hand [] [] rfl rfl
 refine m_stp [4,0,1] (fS [0,1] [vS s,vI i]) H rfl rfl rfl rfl (o_alloc [vU 0,vN,vI 0,vN,vF] (z:=vG [vU 0,vN,vI 0,vN,vF]) hd (by kernel_rfl) rfl) (fun _ => rfl) fun _ _ v H3 hq => ?_
 obtain ⟨b1,rfl,hq⟩:=hq
 replace hS : SH M X w [eB b1 [vU 0,vN,vI 0,vN,vF]] _:=hS.join [] [] rfl rfl hq
 refine wl_batch 1 2 [] [0,1,4] (fS [0,1,4] [vS s,vI i,vP b1]) [] H3 (by decide) (by kernel_rfl) trivial fun _ _ H5 hb => ?_
 replace hS:=hS.below hb
 apply wl_end rfl
 obtain ⟨z6,hz,hm⟩:=bindE hm
 refine w_cut (fun a' w' => Fr 33 (fS [0,4,1] [vS s,vP b1,vI z6]) a' ∧ SH M X w [eB b1 [vU 0,vN,vI 0,vN,vF]] w') ?_ ?_
 ·replace hm:=hz
  apply w_block
  refine w_loop (fun kk a' w' => ∃ (v7 : Int),r02_bad_L1 m s kk v7 = some _ ∧ Fr 33 (fS [0,4,1] [vS s,vP b1,vI v7]) a' ∧ SH M X w [eB b1 [vU 0,vN,vI 0,vN,vF]] w') ⟨_,i,hm,FrG.keep (ks:=[0,4,1]) H5 (by kernel_rfl),hS⟩ ?_
  clear hm H5 hS
  rintro kk _ _ ⟨v7,hm,H,hS⟩
  cases kk with
  | zero => exact noneE hm
  | succ kk =>
   rw [r02_bad_L1] at hm
   apply w_seq
   obtain ⟨ho8,hm⟩:=chkE hm
   obtain ⟨x9,hx9,hm⟩:=letE hm
   refine s_reg [] [0,1,4,15] (fS [0,1,4,15] [vS s,vI v7,vP b1,vB x9]) [fun _ => ((decide (v7 < (ln s))) = true ∧ True → 0 ≤ v7 ∧ v7 < ln s)] H (by subst hx9; kernel_rfl) ⟨fun hg => (ho8 hg.1),trivial⟩ fun _ _ H11 hb => ?_
   replace hS:=hS.below hb
   refine w_if H11 rfl (fun hc => ?_) (fun hc => ?c21)
   case c21 =>
    replace hm:=bF hc hm
    apply w_exit rfl
    obtain rfl:=someE hm
    exact ⟨FrG.keep (ks:=[0,4,1]) H11 (by kernel_rfl),hS⟩
   replace hm:=bT hc hm
   apply w_skip
   apply w_block
   obtain ⟨y12,hy12,hm⟩:=bindE hm
   refine s_reg [(vB y12)] [0,1,4,18] (fS [0,1,4,18] [vS s,vI v7,vP b1,vB y12]) [rB 106 [vS s,vI v7] (vB y12)] H11 (by kernel_rfl) ⟨((r02_Escape_ok _ _ _ hy12).b),trivial⟩ fun _ _ H14 hb => ?_
   replace hS:=hS.below hb
   refine w_if H14 rfl (fun hc => ?_) (fun hc => ?c20)
   case c20 =>
    replace hm:=bF hc hm
    refine w_reg [] [0,1,4] (fS [0,1,4] [vS s,vI (w64 (v7 + 1)),vP b1]) [] H14 (by kernel_rfl) trivial fun _ _ H19 hb => ?_
    replace hS:=hS.below hb
    exact ⟨_,Nat.lt_succ_self _,w64 (v7 + 1),hm,FrG.keep (ks:=[0,4,1]) H19 (by kernel_rfl),hS⟩
   replace hm:=bT hc hm
   obtain ⟨y15,hy15,hm⟩:=bindE hm
   refine w_reg [(vW [vS y15.1,vI y15.2])] [0,1,4] (fS [0,1,4] [vS s,vI y15.2,vP b1]) [rB 121 [vS s,vI v7] (vW [vS y15.1,vI y15.2])] H14 (by kernel_rfl) ⟨((r02_Escaped_ok m _ _ _ hy15).b),trivial⟩ fun _ _ H17 hb => ?_
   replace hS:=hS.below hb
   exact ⟨_,Nat.lt_succ_self _,y15.2,hm,FrG.keep (ks:=[0,4,1]) H17 (by kernel_rfl),hS⟩
 ·rintro _ _ ⟨H,hS⟩
  apply w_seq
  apply wl_start
  obtain ⟨x23,hx23,hm⟩:=letE hm
  refine wl_batch 0 6 [] [4,27,32] (fS [4,27,32] [vP b1,vG [vU 8,vN,vI 0,vN,vF],vI x23]) [] H (by decide) (by subst hx23; kernel_rfl) trivial fun _ _ H25 hb => ?_
  replace hS:=hS.below hb
  have hd:=hS.hand [0] [] rfl rfl
  refine m_stp0 [4,32] (fS [4,32] [vP b1,vI x23]) H25 rfl rfl rfl (o_store [vU 8,vN,vI 0,vN,vF] H25 hd rfl rfl (by kernel_rfl) rfl rfl rfl) rfl fun _ _ H27 hq => ?_
  obtain ⟨_,hq⟩:=hq
  replace hS : SH M X w [eB b1 [vU 8,vN,vI 0,vN,vF]] _:=hS.join [0] [] rfl rfl hq
  refine wl_batch 7 8 [] [4,5] (fS [4,5] [vP b1,vI x23]) [] H27 (by decide) (by kernel_rfl) trivial fun _ _ H29 hb => ?_
  replace hS:=hS.below hb
  apply wl_end rfl
  apply w_ret
  obtain rfl:=someE hm
  exact retR2 H29 rfl (oneRes_agg rfl (hS.bk 0 rfl) Tryz.underlying49 rfl (by kernel_rfl)) rfl ⟨_,rfl,rfl,(hS.sel [] rfl)⟩
theorem r02_bad_ok  (m : Nat) (s : Str) (i : Int) (r : TToken × Int) (hm : r02_bad m s i = some r) : Ret Tryz.prog 144 ⟨[vS s,vI i]⟩ (vW [vG (cT r.1),vI r.2]):=retP_of (Tryz.call144 _) (fun w h => r02_bad_w F0 m   s i r hm w h)

theorem r02_Unprintable_w  (M : Av) (c_ : Int) (r : Bool) (hm : r02_Unprintable c_ = r) (w : World) (hS : S0 M [] w) : Calls Tryz.prog 145 ⟨[vU c_]⟩ w (fun e w' => ∃ v,e = .returned v ∧ v = vB r ∧ SH M (fpl []) w [] w'):=by
 rw [r02_Unprintable] at hm
 have hS0 : SH M (fpl []) w [] w:=hS
 generalize hX : fpl [] = X at hS0 ⊢
 clear hS hX
 have hS:=hS0
 clear hS0
 refine calls_entryP Tryz.func145 rfl Tryz.ntmps145 rfl fun _ H => ?_
 refine s_reg [] [0] [(0,[],vU c_)] [] H (by kernel_rfl) trivial fun _ _ H2 hb => ?_
 replace hS:=hS.below hb
 obtain ⟨x3,hx3,hm⟩:=letE hm
 refine s_reg [] [2] [(2,[],vB (cond x3 true (c_ == 127)))] [] H2 (by subst hx3; kernel_rfl) trivial fun _ _ H5 hb => ?_
 replace hS:=hS.below hb
 apply w_ret
 subst hm
 exact retR1 H5 rfl rfl ⟨_,rfl,rfl,(hS.sel [] rfl)⟩
theorem r02_Unprintable_ok  (c_ : Int) : Ret Tryz.prog 145 ⟨[vU c_]⟩ (vB (r02_Unprintable c_)):=retP_of (Tryz.call145 _) (fun w h => r02_Unprintable_w F0   c_ _ rfl w h)

theorem r02_url_w  (M : Av) (m : Nat) (s : Str) (i : Int) (r : TToken × Int) (hm : r02_url m s i = some r) (w : World) (hS : S0 M [] w) : Calls Tryz.prog 127 ⟨[vS s,vI i]⟩ w (fun e w' => ∃ v,e = .returned v ∧ v = vW [vG (cT r.1),vI r.2] ∧ SH M (fpl []) w [] w'):=by
 rw [r02_url] at hm
 have hS0 : SH M (fpl []) w [] w:=hS
 generalize hX : fpl [] = X at hS0 ⊢
 clear hS hX
 have hS:=hS0
 clear hS0
 refine calls_entryP Tryz.func127 rfl Tryz.ntmps127 rfl fun _ H => ?_
 apply w_seq
 apply wl_start
 have hd:=hS.hand [] [] rfl rfl
 refine m_stp [4,0,1] (fS [0,1] [vS s,vI i]) H rfl rfl rfl rfl (o_alloc [vU 0,vN,vI 0,vN,vF] (z:=vG [vU 0,vN,vI 0,vN,vF]) hd (by kernel_rfl) rfl) (fun _ => rfl) fun _ _ v H3 hq => ?_
 obtain ⟨b1,rfl,hq⟩:=hq
 replace hS : SH M X w [eB b1 [vU 0,vN,vI 0,vN,vF]] _:=hS.join [] [] rfl rfl hq
 refine wl_batch 1 2 [] [0,1,4] (fS [0,1,4] [vS s,vI i,vP b1]) [] H3 (by decide) (by kernel_rfl) trivial fun _ _ H5 hb => ?_
 replace hS:=hS.below hb
 apply wl_end rfl
 apply w_seq
 apply wl_start
 refine wl_batch 0 1 [] [0,1,4,10] (fS [0,1,4,10] [vS s,vI i,vP b1,vG [vU 7,vN,vI 0,vN,vF]]) [] H5 (by decide) (by kernel_rfl) trivial fun _ _ H7 hb => ?_
 replace hS:=hS.below hb
 have hd:=hS.hand [] [0] rfl rfl
 refine m_stp [6,0,1,4,10] (fS [0,1,4,10] [vS s,vI i,vP b1,vG [vU 7,vN,vI 0,vN,vF]]) H7 rfl rfl rfl rfl (o_alloc [vU 0,vN,vI 0,vN,vF] (z:=vG [vU 0,vN,vI 0,vN,vF]) hd (by kernel_rfl) rfl) (fun _ => rfl) fun _ _ v H10 hq => ?_
 obtain ⟨b8,rfl,hq⟩:=hq
 replace hS : SH M X w [eB b8 [vU 0,vN,vI 0,vN,vF],eB b1 [vU 0,vN,vI 0,vN,vF]] _:=hS.join [] [0] rfl rfl hq
 have hd:=hS.hand [0] [1] rfl rfl
 refine m_stp0 [0,1,4,6] (fS [0,1,4,6] [vS s,vI i,vP b1,vP b8]) H10 rfl rfl rfl (o_store [vU 7,vN,vI 0,vN,vF] H10 hd rfl rfl (by kernel_rfl) rfl rfl rfl) rfl fun _ _ H12 hq => ?_
 obtain ⟨_,hq⟩:=hq
 replace hS : SH M X w [eB b8 [vU 7,vN,vI 0,vN,vF],eB b1 [vU 0,vN,vI 0,vN,vF]] _:=hS.join [0] [1] rfl rfl hq
 apply wl_end rfl
 obtain ⟨z13,hz,hm_z13⟩:=bindE hm
 refine w_cut (fun a' w' => ∃ s_z13 : Int × Str,z13 = Sum.inr s_z13 ∧ Fr 110 (fS [0,4,6,1] [vS s,vP b1,vP b8,vI s_z13.1]) a' ∧ SH M X w [eB b8 [vU 7,vS s_z13.2,vI 0,vN,vF],eB b1 [vU 0,vN,vI 0,vN,vF]] w') ?_ ?_
 ·replace hm:=hz
  obtain ⟨y14,hy14,hm⟩:=bindE hm
  refine s_reg [(vI y14)] [0,1,4,6] (fS [0,1,4,6] [vS s,vI y14,vP b1,vP b8]) [rB 103 [vS s,vI i] (vI y14)] H12 (by kernel_rfl) ⟨((r02_spaces_ok m _ _ _ hy14).b),trivial⟩ fun _ _ H16 hb => ?_
  replace hS:=hS.below hb
  apply w_block
  refine w_loop (fun kk a' w' => ∃ (v17 : Int) (v18 : Str),r02_url_L1 m s kk v17 v18 = some _ ∧ Fr 110 (fS [0,4,6,1] [vS s,vP b1,vP b8,vI v17]) a' ∧ SH M X w [eB b8 [vU 7,vS v18,vI 0,vN,vF],eB b1 [vU 0,vN,vI 0,vN,vF]] w') ⟨_,y14,[],hm,FrG.keep (ks:=[0,4,6,1]) H16 (by kernel_rfl),hS⟩ ?_
  clear hm H16 hS
  rintro kk _ _ ⟨v17,v18,hm,H,hS⟩
  cases kk with
  | zero => exact noneE hm
  | succ kk =>
   rw [r02_url_L1] at hm
   apply w_seq
   obtain ⟨ho19,hm⟩:=chkE hm
   obtain ⟨x20,hx20,hm⟩:=letE hm
   refine s_reg [] [0,1,4,6,23] (fS [0,1,4,6,23] [vS s,vI v17,vP b1,vP b8,vB x20]) [fun _ => ((decide (v17 < (ln s))) = true ∧ True → 0 ≤ v17 ∧ v17 < ln s)] H (by subst hx20; kernel_rfl) ⟨fun hg => (ho19 hg.1),trivial⟩ fun _ _ H22 hb => ?_
   replace hS:=hS.below hb
   refine w_if H22 rfl (fun hc => ?_) (fun hc => ?c79)
   case c79 =>
    replace hm:=bF hc hm
    apply w_exit rfl
    obtain rfl:=someE hm
    exact ⟨_,rfl,FrG.keep (ks:=[0,4,6,1]) H22 (by kernel_rfl),hS⟩
   replace hm:=bT hc hm
   apply w_skip
   apply w_block
   obtain ⟨ho23,hm⟩:=chkE hm
   refine s_reg [] [0,1,4,6,7] (fS [0,1,4,6,7] [vS s,vI v17,vP b1,vP b8,vU (bat s v17)]) [fun _ => 0 ≤ v17 ∧ v17 < ln s] H22 (by kernel_rfl) ⟨ho23,trivial⟩ fun _ _ H25 hb => ?_
   replace hS:=hS.below hb
   apply w_block
   refine s_reg [(vB (r02_Space (bat s v17)))] [0,1,4,6,7,38] (fS [0,1,4,6,7,38] [vS s,vI v17,vP b1,vP b8,vU (bat s v17),vB (r02_Space (bat s v17))]) [rB 102 [vU (bat s v17)] (vB (r02_Space (bat s v17)))] H25 (by kernel_rfl) ⟨((r02_Space_ok _).b),trivial⟩ fun _ _ H27 hb => ?_
   replace hS:=hS.below hb
   refine w_if H27 rfl (fun hc => ?c78) (fun hc => ?_)
   case c78 =>
    replace hm:=bT hc hm
    obtain ⟨y28,hy28,hm⟩:=bindE hm
    refine s_reg [(vI y28)] [0,1,4,6] (fS [0,1,4,6] [vS s,vI y28,vP b1,vP b8]) [rB 103 [vS s,vI v17] (vI y28)] H27 (by kernel_rfl) ⟨((r02_spaces_ok m _ _ _ hy28).b),trivial⟩ fun _ _ H30 hb => ?_
    replace hS:=hS.below hb
    obtain ⟨ho31,hm⟩:=chkE hm
    obtain ⟨x32,hx32,hm⟩:=letE hm
    refine s_reg [] [0,1,4,6,53] (fS [0,1,4,6,53] [vS s,vI y28,vP b1,vP b8,vB x32]) [fun _ => ((decide (y28 < (ln s))) = true ∧ True → 0 ≤ y28 ∧ y28 < ln s)] H30 (by subst hx32; kernel_rfl) ⟨fun hg => (ho31 hg.1),trivial⟩ fun _ _ H34 hb => ?_
    replace hS:=hS.below hb
    refine w_if H34 rfl (fun hc => ?_) (fun hc => ?c42)
    case c42 =>
     replace hm:=bF hc hm
     apply w_skip
     exact ⟨_,Nat.lt_succ_self _,y28,v18,hm,FrG.keep (ks:=[0,4,6,1]) H34 (by kernel_rfl),hS⟩
    replace hm:=bT hc hm
    apply w_seq
    apply wl_start
    obtain ⟨y35,hy35,hm⟩:=bindE hm
    refine wl_batch 0 5 [(vW [vG (cT y35.1),vI y35.2])] [4,57,58] (fS [4,57,58] [vP b1,vG (cT y35.1),vI y35.2]) [rB 144 [vS s,vI y28] (vW [vG (cT y35.1),vI y35.2])] H34 (by decide) (by kernel_rfl) ⟨((r02_bad_ok m _ _ _ hy35).b),trivial⟩ fun _ _ H37 hb => ?_
    replace hS:=hS.below hb
    have hd:=hS.hand [1] [0] rfl rfl
    refine m_stp0 [4,58] (fS [4,58] [vP b1,vI y35.2]) H37 rfl rfl rfl (o_store (cT y35.1) H37 hd rfl rfl (by kernel_rfl) rfl rfl rfl) rfl fun _ _ H39 hq => ?_
    obtain ⟨_,hq⟩:=hq
    replace hS : SH M X w [eB b1 (cT y35.1),eB b8 [vU 7,vS v18,vI 0,vN,vF]] _:=hS.join [1] [0] rfl rfl hq
    refine wl_batch 6 7 [] [4,5] (fS [4,5] [vP b1,vI y35.2]) [] H39 (by decide) (by kernel_rfl) trivial fun _ _ H41 hb => ?_
    replace hS:=hS.below hb
    apply wl_end rfl
    apply w_ret
    obtain rfl:=someE hm
    have hm:=hm_z13
    obtain rfl:=someE hm
    exact retR2 H41 rfl (oneRes_agg rfl (hS.bk 0 rfl) Tryz.underlying49 rfl (by kernel_rfl)) rfl ⟨_,rfl,rfl,(hS.sel [] rfl)⟩
   replace hm:=bF hc hm
   obtain ⟨x43,hx43,hm⟩:=letE hm
   obtain ⟨x44,hx44,hm⟩:=letE hm
   obtain ⟨y45,hy45,hm⟩:=bindE hm
   obtain ⟨x46,hx46,hm⟩:=letE hm
   refine s_reg [(vB (r02_Unprintable (bat s v17))),(vB y45)] [0,1,4,6,7,59] (fS [0,1,4,6,7,59] [vS s,vI v17,vP b1,vP b8,vU (bat s v17),vB x46]) [fun wz => ((cond x43 true ((bat s v17) == 40)) = false ∧ True → RetB Tryz.prog 145 ⟨[vU (bat s v17)]⟩ (vB (r02_Unprintable (bat s v17))) wz),fun wz => (((bat s v17) == 92) = true ∧ x44 = false ∧ True → RetB Tryz.prog 106 ⟨[vS s,vI v17]⟩ (vB y45) wz)] H27 (by subst hx43 hx44 hx46; kernel_rfl) ⟨fun hg => (r02_Unprintable_ok _).b,fun hg => (r02_Escape_ok _ _ _ (bT (hg.1) (bF (hg.2.1) hy45))).b,trivial⟩ fun _ _ H48 hb => ?_
   replace hS:=hS.below hb
   refine w_if H48 rfl (fun hc => ?c77) (fun hc => ?_)
   case c77 =>
    replace hm:=bT hc hm
    apply w_seq
    apply wl_start
    obtain ⟨y49,hy49,hm⟩:=bindE hm
    refine wl_batch 0 5 [(vW [vG (cT y49.1),vI y49.2])] [4,87,88] (fS [4,87,88] [vP b1,vG (cT y49.1),vI y49.2]) [rB 144 [vS s,vI v17] (vW [vG (cT y49.1),vI y49.2])] H48 (by decide) (by kernel_rfl) ⟨((r02_bad_ok m _ _ _ hy49).b),trivial⟩ fun _ _ H51 hb => ?_
    replace hS:=hS.below hb
    have hd:=hS.hand [1] [0] rfl rfl
    refine m_stp0 [4,88] (fS [4,88] [vP b1,vI y49.2]) H51 rfl rfl rfl (o_store (cT y49.1) H51 hd rfl rfl (by kernel_rfl) rfl rfl rfl) rfl fun _ _ H53 hq => ?_
    obtain ⟨_,hq⟩:=hq
    replace hS : SH M X w [eB b1 (cT y49.1),eB b8 [vU 7,vS v18,vI 0,vN,vF]] _:=hS.join [1] [0] rfl rfl hq
    refine wl_batch 6 7 [] [4,5] (fS [4,5] [vP b1,vI y49.2]) [] H53 (by decide) (by kernel_rfl) trivial fun _ _ H55 hb => ?_
    replace hS:=hS.below hb
    apply wl_end rfl
    apply w_ret
    obtain rfl:=someE hm
    have hm:=hm_z13
    obtain rfl:=someE hm
    exact retR2 H55 rfl (oneRes_agg rfl (hS.bk 0 rfl) Tryz.underlying49 rfl (by kernel_rfl)) rfl ⟨_,rfl,rfl,(hS.sel [] rfl)⟩
   replace hm:=bF hc hm
   refine s_reg [] [0,1,4,6,89] (fS [0,1,4,6,89] [vS s,vI v17,vP b1,vP b8,vB ((bat s v17) == 92)]) [] H48 (by kernel_rfl) trivial fun _ _ H57 hb => ?_
   replace hS:=hS.below hb
   refine w_if H57 rfl (fun hc => ?c76) (fun hc => ?_)
   case c76 =>
    replace hm:=bT hc hm
    obtain ⟨y58,hy58,hm⟩:=bindE hm
    refine s_reg [(vW [vS y58.1,vI y58.2])] [0,4,6,8,9] (fS [0,4,6,8,9] [vS s,vP b1,vP b8,vS y58.1,vI y58.2]) [rB 121 [vS s,vI v17] (vW [vS y58.1,vI y58.2])] H57 (by kernel_rfl) ⟨((r02_Escaped_ok m _ _ _ hy58).b),trivial⟩ fun _ _ H60 hb => ?_
    replace hS:=hS.below hb
    apply w_seq
    apply wl_start
    obtain ⟨ho61,hm⟩:=chkE hm
    refine wl_batch 0 5 [(vS v18)] [0,4,6,9,101,102] (fS [0,4,6,9,101,102] [vS s,vP b1,vP b8,vI y58.2,vS (v18 ++ y58.1),vA b8 1]) [rA b8 1 (vS v18),fun _ => ln v18 + ln y58.1 ≤ 9223372036854775807] H60 (by decide) (by kernel_rfl) ⟨((hS.bk 0 rfl).at1 rfl),ho61,trivial⟩ fun _ _ H63 hb => ?_
    replace hS:=hS.below hb
    have hd:=hS.hand [0] [1] rfl rfl
    refine m_stp0 [0,4,6,9] (fS [0,4,6,9] [vS s,vP b1,vP b8,vI y58.2]) H63 rfl rfl rfl (o_store [vU 7,vS (v18 ++ y58.1),vI 0,vN,vF] H63 hd rfl rfl (by kernel_rfl) rfl rfl rfl) rfl fun _ _ H65 hq => ?_
    obtain ⟨_,hq⟩:=hq
    replace hS : SH M X w [eB b8 [vU 7,vS (v18 ++ y58.1),vI 0,vN,vF],eB b1 [vU 0,vN,vI 0,vN,vF]] _:=hS.join [0] [1] rfl rfl hq
    apply wl_end rfl
    refine w_reg [] [0,1,4,6] (fS [0,1,4,6] [vS s,vI y58.2,vP b1,vP b8]) [] H65 (by kernel_rfl) trivial fun _ _ H67 hb => ?_
    replace hS:=hS.below hb
    exact ⟨_,Nat.lt_succ_self _,y58.2,v18 ++ y58.1,hm,FrG.keep (ks:=[0,4,6,1]) H67 (by kernel_rfl),hS⟩
   replace hm:=bF hc hm
   obtain ⟨ho69,hm⟩:=chkE hm
   obtain ⟨ho70,hm⟩:=chkE hm
   refine s_drawS (base:=(fS [0,1,4,6] [vS s,vI v17,vP b1,vP b8])) (L:=[eB b8 [vU 7,vS v18,vI 0,vN,vF],eB b1 [vU 0,vN,vI 0,vN,vF]]) 10 2 (fun yg68 => [vA b8 1,vS v18,vS s,vI v17,vI v17,vI (w64 (v17 + 1)),vS (sub s v17 (w64 (v17 + 1))),vS (v18 ++ (sub s v17 (w64 (v17 + 1)))),vA b8 1,undef]) (fun yg68 => [[],[],[],[],[],[],[],[],[],[eB b8 [vU 7,vS (v18 ++ (sub s v17 (w64 (v17 + 1)))),vI 0,vN,vF]]]) [[10],[10],[],[],[],[],[],[],[10],[10]] [[],[],[],[],[],[],[],[],[],[10]] [[0],[0,1],[2],[3],[4],[4,5],[2,3,4,5,6],[0,1,2,3,4,5,6,7],[8],[0,1,2,3,4,5,6,7,8,9]] [] (FrG.keep (ks:=[0,1,4,6]) H57 (by kernel_rfl)) (fun _ _ h => by cases h) (by kernel_rfl) hS (by kernel_rfl) rfl rfl (by kernel_rfl) (by kernel_rfl) (by kernel_rfl) (gd_none (by kernel_rfl) _ _) ?hloc_yg68 ?hstep_yg68 fun _ _ yg68 H72 hv hS => ?hK_yg68
   case hloc_yg68 => exact ⟨(fun _ _ _ _ => ⟨rfl,rfl⟩),(fun _ _ _ _ => ⟨rfl,rfl⟩),(fun _ _ _ _ => ⟨rfl,rfl⟩),(fun _ _ _ _ => ⟨rfl,rfl⟩),(fun _ _ _ _ => ⟨rfl,rfl⟩),(fun _ _ _ _ => ⟨rfl,rfl⟩),(fun _ _ _ _ => ⟨rfl,rfl⟩),(fun _ _ _ _ => ⟨rfl,rfl⟩),(fun _ _ _ _ => ⟨rfl,rfl⟩),(fun _ _ _ _ => ⟨rfl,rfl⟩),trivial⟩
   case hstep_yg68 =>
    refine ⟨?_,?_,?_,?_,?_,?_,?_,?_,?_,?_,trivial⟩
    ·intro o ho a w yg68 M Hb hv hO hS
     obtain rfl:=someE ho
     exact Stp.mono (o_evs [] (vA b8 1) none [] Hb rfl (by kernel_rfl) (fun q e => by cases e)) fun _ _ hq => ⟨gL [],fun _ _ => hq.1,(hS.below hq.2.below).sel [0] rfl⟩
    ·intro o ho a w yg68 M Hb hv hO hS
     obtain rfl:=someE ho
     exact Stp.mono (o_evs [(vS v18)] (vS v18) (some (rA b8 1 (vS v18))) [] ((Hb).add (hv 0 (by decide) (by decide) 27 rfl)) rfl (by kernel_rfl) (fun q e => by cases e; exact ((hS.bk 0 rfl).at1 rfl))) fun _ _ hq => ⟨gL [],fun _ _ => hq.1,(hS.below hq.2.below).sel [0] rfl⟩
    ·intro o ho a w yg68 M Hb hv hO hS
     obtain rfl:=someE ho
     exact Stp.mono (o_evs [] (vS s) none [] Hb rfl (by kernel_rfl) (fun q e => by cases e)) fun _ _ hq => ⟨gL [],fun _ _ => hq.1,(hS.below hq.2.below).sel [] rfl⟩
    ·intro o ho a w yg68 M Hb hv hO hS
     obtain rfl:=someE ho
     exact Stp.mono (o_evs [] (vI v17) none [] Hb rfl (by kernel_rfl) (fun q e => by cases e)) fun _ _ hq => ⟨gL [],fun _ _ => hq.1,(hS.below hq.2.below).sel [] rfl⟩
    ·intro o ho a w yg68 M Hb hv hO hS
     obtain rfl:=someE ho
     exact Stp.mono (o_evs [] (vI v17) none [] Hb rfl (by kernel_rfl) (fun q e => by cases e)) fun _ _ hq => ⟨gL [],fun _ _ => hq.1,(hS.below hq.2.below).sel [] rfl⟩
    ·intro o ho a w yg68 M Hb hv hO hS
     obtain rfl:=someE ho
     exact Stp.mono (o_evs [] (vI (w64 (v17 + 1))) none [] ((Hb).add (hv 4 (by decide) (by decide) 31 rfl)) rfl (by kernel_rfl) (fun q e => by cases e)) fun _ _ hq => ⟨gL [],fun _ _ => hq.1,(hS.below hq.2.below).sel [] rfl⟩
    ·intro o ho a w yg68 M Hb hv hO hS
     obtain rfl:=someE ho
     exact Stp.mono (o_evs [] (vS (sub s v17 (w64 (v17 + 1)))) (some (fun _ => 0 ≤ v17 ∧ v17 ≤ (w64 (v17 + 1)) ∧ (w64 (v17 + 1)) ≤ ln s)) [] ((((Hb).add (hv 2 (by decide) (by decide) 29 rfl)).add (hv 3 (by decide) (by decide) 30 rfl)).add (hv 5 (by decide) (by decide) 32 rfl)) rfl (by kernel_rfl) (fun q e => by cases e; exact ho69)) fun _ _ hq => ⟨gL [],fun _ _ => hq.1,(hS.below hq.2.below).sel [] rfl⟩
    ·intro o ho a w yg68 M Hb hv hO hS
     obtain rfl:=someE ho
     exact Stp.mono (o_evs [] (vS (v18 ++ (sub s v17 (w64 (v17 + 1))))) (some (fun _ => ln v18 + ln (sub s v17 (w64 (v17 + 1))) ≤ 9223372036854775807)) [] (((Hb).add (hv 1 (by decide) (by decide) 28 rfl)).add (hv 6 (by decide) (by decide) 33 rfl)) rfl (by kernel_rfl) (fun q e => by cases e; exact ho70)) fun _ _ hq => ⟨gL [],fun _ _ => hq.1,(hS.below hq.2.below).sel [] rfl⟩
    ·intro o ho a w yg68 M Hb hv hO hS
     obtain rfl:=someE ho
     exact Stp.mono (o_evs [] (vA b8 1) none [] Hb rfl (by kernel_rfl) (fun q e => by cases e)) fun _ _ hq => ⟨gL [],fun _ _ => hq.1,(hS.below hq.2.below).sel [0] rfl⟩
    ·intro o ho a w yg68 M Hb hv hO hS0
     obtain rfl:=someE ho
     have H : Fr 110 ((fS [35,34] [vA b8 1,vS (v18 ++ (sub s v17 (w64 (v17 + 1))))]) ++ (fS [0,1,4,6] [vS s,vI v17,vP b1,vP b8])) _:=((Hb).add (hv 7 (by decide) (by decide) 34 rfl)).add (hv 8 (by decide) (by decide) 35 rfl)
     obtain ⟨X,hX⟩ : ∃ X,X = fpl [eB b8 [vU 7,vS v18,vI 0,vN,vF]]:=⟨_,rfl⟩
     have hS : SH M X w [eB b8 [vU 7,vS v18,vI 0,vN,vF]] w:=by rw [hX]; exact hS0
     have hd:=hS.hand [0] [] rfl rfl
     refine Stp.mono (o_store [vU 7,vS (v18 ++ (sub s v17 (w64 (v17 + 1)))),vI 0,vN,vF] H hd rfl rfl (by kernel_rfl) rfl rfl rfl) ?_
     rintro v w2 hq
     replace hS : SH M X w [eB b8 [vU 7,vS (v18 ++ (sub s v17 (w64 (v17 + 1)))),vI 0,vN,vF]] _:=hS.join [0] [] rfl rfl hq
     rw [hX] at hS
     exact ⟨gL [],(fun _ h => by cases h),hS.sel [0] rfl⟩
   have H73 : Fr 110 (fS [0,1,4,6] [vS s,vI v17,vP b1,vP b8]) _:=(FrG.keep (ks:=[0,1,4,6]) H72 (by kernel_rfl))
   replace hS : SH M X w [eB b8 [vU 7,vS (v18 ++ (sub s v17 (w64 (v17 + 1)))),vI 0,vN,vF],eB b1 [vU 0,vN,vI 0,vN,vF]] _:=hS
   clear hv H72
   refine w_reg [] [0,1,4,6] (fS [0,1,4,6] [vS s,vI (w64 (v17 + 1)),vP b1,vP b8]) [] H73 (by kernel_rfl) trivial fun _ _ H75 hb => ?_
   replace hS:=hS.below hb
   exact ⟨_,Nat.lt_succ_self _,w64 (v17 + 1),v18 ++ (sub s v17 (w64 (v17 + 1))),hm,FrG.keep (ks:=[0,4,6,1]) H75 (by kernel_rfl),hS⟩
 ·rintro _ _ ⟨s_z13,hz,H,hS⟩
  subst hz
  replace hm:=sumR hm_z13
  apply w_seq
  apply wl_start
  obtain ⟨x81,hx81,hm⟩:=letE hm
  refine wl_batch 0 6 [(vG [vU 7,vS s_z13.2,vI 0,vN,vF])] [4,104,109] (fS [4,104,109] [vP b1,vG [vU 7,vS s_z13.2,vI 0,vN,vF],vI x81]) [rN b8 0 [vU 7,vS s_z13.2,vI 0,vN,vF]] H (by decide) (by subst hx81; kernel_rfl) ⟨((hS.bk 0 rfl).atD rfl),trivial⟩ fun _ _ H83 hb => ?_
  replace hS:=hS.below hb
  have hd:=hS.hand [1] [0] rfl rfl
  refine m_stp0 [4,109] (fS [4,109] [vP b1,vI x81]) H83 rfl rfl rfl (o_store [vU 7,vS s_z13.2,vI 0,vN,vF] H83 hd rfl rfl (by kernel_rfl) rfl rfl rfl) rfl fun _ _ H85 hq => ?_
  obtain ⟨_,hq⟩:=hq
  replace hS : SH M X w [eB b1 [vU 7,vS s_z13.2,vI 0,vN,vF],eB b8 [vU 7,vS s_z13.2,vI 0,vN,vF]] _:=hS.join [1] [0] rfl rfl hq
  refine wl_batch 7 8 [] [4,5] (fS [4,5] [vP b1,vI x81]) [] H85 (by decide) (by kernel_rfl) trivial fun _ _ H87 hb => ?_
  replace hS:=hS.below hb
  apply wl_end rfl
  replace hS : SH M X w [eB b1 [vU 7,vS s_z13.2,vI 0,vN,vF]] _:=hS.sel [0] rfl
  apply w_ret
  obtain rfl:=someE hm
  exact retR2 H87 rfl (oneRes_agg rfl (hS.bk 0 rfl) Tryz.underlying49 rfl (by kernel_rfl)) rfl ⟨_,rfl,rfl,(hS.sel [] rfl)⟩
theorem r02_url_ok  (m : Nat) (s : Str) (i : Int) (r : TToken × Int) (hm : r02_url m s i = some r) : Ret Tryz.prog 127 ⟨[vS s,vI i]⟩ (vW [vG (cT r.1),vI r.2]):=retP_of (Tryz.call127 _) (fun w h => r02_url_w F0 m   s i r hm w h)

theorem r02_word_w  (M : Av) (m : Nat) (s : Str) (i : Int) (r : TToken × Int) (hm : r02_word m s i = some r) (w : World) (hS : S0 M [] w) : Calls Tryz.prog 111 ⟨[vS s,vI i]⟩ w (fun e w' => ∃ v,e = .returned v ∧ v = vW [vG (cT r.1),vI r.2] ∧ SH M (fpl []) w [] w'):=by
 rw [r02_word] at hm
 have hS0 : SH M (fpl []) w [] w:=hS
 generalize hX : fpl [] = X at hS0 ⊢
 clear hS hX
 have hS:=hS0
 clear hS0
 refine calls_entryP Tryz.func111 rfl Tryz.ntmps111 rfl fun _ H => ?_
 apply w_seq
 apply wl_start
 have hd:=hS.hand [] [] rfl rfl
 refine m_stp [4,0,1] (fS [0,1] [vS s,vI i]) H rfl rfl rfl rfl (o_alloc [vU 0,vN,vI 0,vN,vF] (z:=vG [vU 0,vN,vI 0,vN,vF]) hd (by kernel_rfl) rfl) (fun _ => rfl) fun _ _ v H3 hq => ?_
 obtain ⟨b1,rfl,hq⟩:=hq
 replace hS : SH M X w [eB b1 [vU 0,vN,vI 0,vN,vF]] _:=hS.join [] [] rfl rfl hq
 refine wl_batch 1 2 [] [0,1,4] (fS [0,1,4] [vS s,vI i,vP b1]) [] H3 (by decide) (by kernel_rfl) trivial fun _ _ H5 hb => ?_
 replace hS:=hS.below hb
 apply wl_end rfl
 obtain ⟨y6,hy6,hm⟩:=bindE hm
 refine s_reg [(vW [vS y6.1,vI y6.2])] [0,4,6,7] (fS [0,4,6,7] [vS s,vP b1,vS y6.1,vI y6.2]) [rB 107 [vS s,vI i] (vW [vS y6.1,vI y6.2])] H5 (by kernel_rfl) ⟨((r02_Named_ok m _ _ _ hy6).b),trivial⟩ fun _ _ H8 hb => ?_
 replace hS:=hS.below hb
 apply w_seq
 obtain ⟨y9,hy9,hm⟩:=bindE hm
 refine s_reg [(vU y9)] [0,4,6,7,18] (fS [0,4,6,7,18] [vS s,vP b1,vS y6.1,vI y6.2,vB (y9 != 40)]) [rB 120 [vS s,vI y6.2] (vU y9)] H8 (by kernel_rfl) ⟨((r02_At_ok _ _ _ hy9).b),trivial⟩ fun _ _ H11 hb => ?_
 replace hS:=hS.below hb
 refine w_if H11 rfl (fun hc => ?c44) (fun hc => ?_)
 case c44 =>
  replace hm:=bT hc hm
  apply w_seq
  apply wl_start
  refine wl_batch 0 3 [] [4,20,21] (fS [4,20,21] [vP b1,vG [vU 1,vS y6.1,vI 0,vN,vF],vI y6.2]) [] H11 (by decide) (by kernel_rfl) trivial fun _ _ H13 hb => ?_
  replace hS:=hS.below hb
  have hd:=hS.hand [0] [] rfl rfl
  refine m_stp0 [4,21] (fS [4,21] [vP b1,vI y6.2]) H13 rfl rfl rfl (o_store [vU 1,vS y6.1,vI 0,vN,vF] H13 hd rfl rfl (by kernel_rfl) rfl rfl rfl) rfl fun _ _ H15 hq => ?_
  obtain ⟨_,hq⟩:=hq
  replace hS : SH M X w [eB b1 [vU 1,vS y6.1,vI 0,vN,vF]] _:=hS.join [0] [] rfl rfl hq
  refine wl_batch 4 5 [] [4,5] (fS [4,5] [vP b1,vI y6.2]) [] H15 (by decide) (by kernel_rfl) trivial fun _ _ H17 hb => ?_
  replace hS:=hS.below hb
  apply wl_end rfl
  apply w_ret
  obtain rfl:=someE hm
  exact retR2 H17 rfl (oneRes_agg rfl (hS.bk 0 rfl) Tryz.underlying49 rfl (by kernel_rfl)) rfl ⟨_,rfl,rfl,(hS.sel [] rfl)⟩
 replace hm:=bF hc hm
 apply w_skip
 obtain ⟨z18,hz,hm_z18⟩:=bindE hm
 refine w_cut (fun a' w' => ∃ s_z18 : Unit,z18 = Sum.inr s_z18 ∧ Fr 46 (fS [4,6,7] [vP b1,vS y6.1,vI y6.2]) a' ∧ SH M X w [eB b1 [vU 0,vN,vI 0,vN,vF]] w') ?_ ?_
 ·replace hm:=hz
  obtain ⟨y19,hy19,hm⟩:=bindE hm
  refine s_reg [(vB y19)] [0,4,6,7,23] (fS [0,4,6,7,23] [vS s,vP b1,vS y6.1,vI y6.2,vB y19]) [rB 126 [vS y6.1,vS [117,114,108]] (vB y19)] H11 (by kernel_rfl) ⟨((r01_Alike_ok m _ _ _ hy19).b),trivial⟩ fun _ _ H21 hb => ?_
  replace hS:=hS.below hb
  refine w_if H21 rfl (fun hc => ?_) (fun hc => ?c36)
  case c36 =>
   replace hm:=bF hc hm
   apply w_skip
   obtain rfl:=someE hm
   exact ⟨_,rfl,FrG.keep (ks:=[4,6,7]) H21 (by kernel_rfl),hS⟩
  replace hm:=bT hc hm
  obtain ⟨y22,hy22,hm⟩:=bindE hm
  obtain ⟨y23,hy23,hm⟩:=bindE hm
  refine s_reg [(vI y22),(vU y23)] [0,4,6,7,8] (fS [0,4,6,7,8] [vS s,vP b1,vS y6.1,vI y6.2,vU y23]) [rB 103 [vS s,vI (w64 (y6.2 + 1))] (vI y22),rB 120 [vS s,vI y22] (vU y23)] H21 (by kernel_rfl) ⟨((r02_spaces_ok m _ _ _ hy22).b),((r02_At_ok _ _ _ hy23).b),trivial⟩ fun _ _ H25 hb => ?_
  replace hS:=hS.below hb
  refine s_reg [] [0,4,6,7,35] (fS [0,4,6,7,35] [vS s,vP b1,vS y6.1,vI y6.2,vB (cond (y23 != 34) (y23 != 39) false)]) [] H25 (by kernel_rfl) trivial fun _ _ H27 hb => ?_
  replace hS:=hS.below hb
  refine w_if H27 rfl (fun hc => ?_) (fun hc => ?c35)
  case c35 =>
   replace hm:=bF hc hm
   apply w_skip
   obtain rfl:=someE hm
   exact ⟨_,rfl,FrG.keep (ks:=[4,6,7]) H27 (by kernel_rfl),hS⟩
  replace hm:=bT hc hm
  apply w_seq
  apply wl_start
  obtain ⟨y28,hy28,hm⟩:=bindE hm
  refine wl_batch 0 6 [(vW [vG (cT y28.1),vI y28.2])] [4,40,41] (fS [4,40,41] [vP b1,vG (cT y28.1),vI y28.2]) [rB 127 [vS s,vI (w64 (y6.2 + 1))] (vW [vG (cT y28.1),vI y28.2])] H27 (by decide) (by kernel_rfl) ⟨((r02_url_ok m _ _ _ hy28).b),trivial⟩ fun _ _ H30 hb => ?_
  replace hS:=hS.below hb
  have hd:=hS.hand [0] [] rfl rfl
  refine m_stp0 [4,41] (fS [4,41] [vP b1,vI y28.2]) H30 rfl rfl rfl (o_store (cT y28.1) H30 hd rfl rfl (by kernel_rfl) rfl rfl rfl) rfl fun _ _ H32 hq => ?_
  obtain ⟨_,hq⟩:=hq
  replace hS : SH M X w [eB b1 (cT y28.1)] _:=hS.join [0] [] rfl rfl hq
  refine wl_batch 7 8 [] [4,5] (fS [4,5] [vP b1,vI y28.2]) [] H32 (by decide) (by kernel_rfl) trivial fun _ _ H34 hb => ?_
  replace hS:=hS.below hb
  apply wl_end rfl
  apply w_ret
  obtain rfl:=someE hm
  have hm:=hm_z18
  obtain rfl:=someE hm
  exact retR2 H34 rfl (oneRes_agg rfl (hS.bk 0 rfl) Tryz.underlying49 rfl (by kernel_rfl)) rfl ⟨_,rfl,rfl,(hS.sel [] rfl)⟩
 ·rintro _ _ ⟨s_z18,hz,H,hS⟩
  subst hz
  replace hm:=sumR hm_z18
  apply w_seq
  apply wl_start
  refine wl_batch 0 4 [] [4,43,45] (fS [4,43,45] [vP b1,vG [vU 2,vS y6.1,vI 0,vN,vF],vI (w64 (y6.2 + 1))]) [] H (by decide) (by kernel_rfl) trivial fun _ _ H38 hb => ?_
  replace hS:=hS.below hb
  have hd:=hS.hand [0] [] rfl rfl
  refine m_stp0 [4,45] (fS [4,45] [vP b1,vI (w64 (y6.2 + 1))]) H38 rfl rfl rfl (o_store [vU 2,vS y6.1,vI 0,vN,vF] H38 hd rfl rfl (by kernel_rfl) rfl rfl rfl) rfl fun _ _ H40 hq => ?_
  obtain ⟨_,hq⟩:=hq
  replace hS : SH M X w [eB b1 [vU 2,vS y6.1,vI 0,vN,vF]] _:=hS.join [0] [] rfl rfl hq
  refine wl_batch 5 6 [] [4,5] (fS [4,5] [vP b1,vI (w64 (y6.2 + 1))]) [] H40 (by decide) (by kernel_rfl) trivial fun _ _ H42 hb => ?_
  replace hS:=hS.below hb
  apply wl_end rfl
  apply w_ret
  obtain rfl:=someE hm
  exact retR2 H42 rfl (oneRes_agg rfl (hS.bk 0 rfl) Tryz.underlying49 rfl (by kernel_rfl)) rfl ⟨_,rfl,rfl,(hS.sel [] rfl)⟩
theorem r02_word_ok  (m : Nat) (s : Str) (i : Int) (r : TToken × Int) (hm : r02_word m s i = some r) : Ret Tryz.prog 111 ⟨[vS s,vI i]⟩ (vW [vG (cT r.1),vI r.2]):=retP_of (Tryz.call111 _) (fun w h => r02_word_w F0 m   s i r hm w h)

theorem r02_mark_w  (M : Av) (c_ : Int) (r : Int) (hm : r02_mark c_ = r) (w : World) (hS : S0 M [] w) : Calls Tryz.prog 112 ⟨[vU c_]⟩ w (fun e w' => ∃ v,e = .returned v ∧ v = vU r ∧ SH M (fpl []) w [] w'):=by
 rw [r02_mark] at hm
 have hS0 : SH M (fpl []) w [] w:=hS
 generalize hX : fpl [] = X at hS0 ⊢
 clear hS hX
 have hS:=hS0
 clear hS0
 refine calls_entryP Tryz.func112 rfl Tryz.ntmps112 rfl fun _ H => ?_
 refine s_reg [] [0] [(0,[],vU c_)] [] H (by kernel_rfl) trivial fun _ _ H2 hb => ?_
 replace hS:=hS.below hb
 apply w_seq
 refine s_reg [] [3] [(3,[],vU c_)] [] H2 (by kernel_rfl) trivial fun _ _ H4 hb => ?_
 replace hS:=hS.below hb
 apply w_block
 refine s_reg [] [3,4] (fS [3,4] [vU c_,vB (c_ == 58)]) [] H4 (by kernel_rfl) trivial fun _ _ H6 hb => ?_
 replace hS:=hS.below hb
 refine w_if H6 rfl (fun hc => ?c51) (fun hc => ?_)
 case c51 =>
  replace hm:=bT hc hm
  refine s_reg [] [2] [(2,[],vU 16)] [] H6 (by kernel_rfl) trivial fun _ _ H8 hb => ?_
  replace hS:=hS.below hb
  apply w_ret
  subst hm
  exact retR1 H8 rfl rfl ⟨_,rfl,rfl,(hS.sel [] rfl)⟩
 replace hm:=bF hc hm
 refine s_reg [] [3,6] (fS [3,6] [vU c_,vB (c_ == 59)]) [] H6 (by kernel_rfl) trivial fun _ _ H10 hb => ?_
 replace hS:=hS.below hb
 refine w_if H10 rfl (fun hc => ?c50) (fun hc => ?_)
 case c50 =>
  replace hm:=bT hc hm
  refine s_reg [] [2] [(2,[],vU 17)] [] H10 (by kernel_rfl) trivial fun _ _ H12 hb => ?_
  replace hS:=hS.below hb
  apply w_ret
  subst hm
  exact retR1 H12 rfl rfl ⟨_,rfl,rfl,(hS.sel [] rfl)⟩
 replace hm:=bF hc hm
 refine s_reg [] [3,8] (fS [3,8] [vU c_,vB (c_ == 44)]) [] H10 (by kernel_rfl) trivial fun _ _ H14 hb => ?_
 replace hS:=hS.below hb
 refine w_if H14 rfl (fun hc => ?c49) (fun hc => ?_)
 case c49 =>
  replace hm:=bT hc hm
  refine s_reg [] [2] [(2,[],vU 18)] [] H14 (by kernel_rfl) trivial fun _ _ H16 hb => ?_
  replace hS:=hS.below hb
  apply w_ret
  subst hm
  exact retR1 H16 rfl rfl ⟨_,rfl,rfl,(hS.sel [] rfl)⟩
 replace hm:=bF hc hm
 refine s_reg [] [3,10] (fS [3,10] [vU c_,vB (c_ == 91)]) [] H14 (by kernel_rfl) trivial fun _ _ H18 hb => ?_
 replace hS:=hS.below hb
 refine w_if H18 rfl (fun hc => ?c48) (fun hc => ?_)
 case c48 =>
  replace hm:=bT hc hm
  refine s_reg [] [2] [(2,[],vU 19)] [] H18 (by kernel_rfl) trivial fun _ _ H20 hb => ?_
  replace hS:=hS.below hb
  apply w_ret
  subst hm
  exact retR1 H20 rfl rfl ⟨_,rfl,rfl,(hS.sel [] rfl)⟩
 replace hm:=bF hc hm
 refine s_reg [] [3,12] (fS [3,12] [vU c_,vB (c_ == 93)]) [] H18 (by kernel_rfl) trivial fun _ _ H22 hb => ?_
 replace hS:=hS.below hb
 refine w_if H22 rfl (fun hc => ?c47) (fun hc => ?_)
 case c47 =>
  replace hm:=bT hc hm
  refine s_reg [] [2] [(2,[],vU 20)] [] H22 (by kernel_rfl) trivial fun _ _ H24 hb => ?_
  replace hS:=hS.below hb
  apply w_ret
  subst hm
  exact retR1 H24 rfl rfl ⟨_,rfl,rfl,(hS.sel [] rfl)⟩
 replace hm:=bF hc hm
 refine s_reg [] [3,14] (fS [3,14] [vU c_,vB (c_ == 40)]) [] H22 (by kernel_rfl) trivial fun _ _ H26 hb => ?_
 replace hS:=hS.below hb
 refine w_if H26 rfl (fun hc => ?c46) (fun hc => ?_)
 case c46 =>
  replace hm:=bT hc hm
  refine s_reg [] [2] [(2,[],vU 21)] [] H26 (by kernel_rfl) trivial fun _ _ H28 hb => ?_
  replace hS:=hS.below hb
  apply w_ret
  subst hm
  exact retR1 H28 rfl rfl ⟨_,rfl,rfl,(hS.sel [] rfl)⟩
 replace hm:=bF hc hm
 refine s_reg [] [3,16] (fS [3,16] [vU c_,vB (c_ == 41)]) [] H26 (by kernel_rfl) trivial fun _ _ H30 hb => ?_
 replace hS:=hS.below hb
 refine w_if H30 rfl (fun hc => ?c45) (fun hc => ?_)
 case c45 =>
  replace hm:=bT hc hm
  refine s_reg [] [2] [(2,[],vU 22)] [] H30 (by kernel_rfl) trivial fun _ _ H32 hb => ?_
  replace hS:=hS.below hb
  apply w_ret
  subst hm
  exact retR1 H32 rfl rfl ⟨_,rfl,rfl,(hS.sel [] rfl)⟩
 replace hm:=bF hc hm
 refine s_reg [] [3,18] (fS [3,18] [vU c_,vB (c_ == 123)]) [] H30 (by kernel_rfl) trivial fun _ _ H34 hb => ?_
 replace hS:=hS.below hb
 refine w_if H34 rfl (fun hc => ?c44) (fun hc => ?_)
 case c44 =>
  replace hm:=bT hc hm
  refine s_reg [] [2] [(2,[],vU 23)] [] H34 (by kernel_rfl) trivial fun _ _ H36 hb => ?_
  replace hS:=hS.below hb
  apply w_ret
  subst hm
  exact retR1 H36 rfl rfl ⟨_,rfl,rfl,(hS.sel [] rfl)⟩
 replace hm:=bF hc hm
 refine s_reg [] [20] [(20,[],vB (c_ == 125))] [] H34 (by kernel_rfl) trivial fun _ _ H38 hb => ?_
 replace hS:=hS.below hb
 refine w_if H38 rfl (fun hc => ?c43) (fun hc => ?_)
 case c43 =>
  replace hm:=bT hc hm
  refine s_reg [] [2] [(2,[],vU 24)] [] H38 (by kernel_rfl) trivial fun _ _ H40 hb => ?_
  replace hS:=hS.below hb
  apply w_ret
  subst hm
  exact retR1 H40 rfl rfl ⟨_,rfl,rfl,(hS.sel [] rfl)⟩
 replace hm:=bF hc hm
 apply w_skip
 refine s_reg [] [2] [(2,[],vU 0)] [] H38 (by kernel_rfl) trivial fun _ _ H42 hb => ?_
 replace hS:=hS.below hb
 apply w_ret
 subst hm
 exact retR1 H42 rfl rfl ⟨_,rfl,rfl,(hS.sel [] rfl)⟩
theorem r02_mark_ok  (c_ : Int) : Ret Tryz.prog 112 ⟨[vU c_]⟩ (vU (r02_mark c_)):=retP_of (Tryz.call112 _) (fun w h => r02_mark_w F0   c_ _ rfl w h)

theorem r02_One_w  (M : Av) (m : Nat) (s : Str) (i : Int) (r : TToken × Int) (hm : r02_One m s i = some r) (w : World) (hS : S0 M [] w) : Calls Tryz.prog 92 ⟨[vS s,vI i]⟩ w (fun e w' => ∃ v,e = .returned v ∧ v = vW [vG (cT r.1),vI r.2] ∧ SH M (fpl []) w [] w'):=by
 rw [r02_One] at hm
 have hS0 : SH M (fpl []) w [] w:=hS
 generalize hX : fpl [] = X at hS0 ⊢
 clear hS hX
 have hS:=hS0
 clear hS0
 refine calls_entryP Tryz.func92 rfl Tryz.ntmps92 rfl fun _ H => ?_
 apply w_seq
 apply wl_start
 have hd:=hS.hand [] [] rfl rfl
 refine m_stp [4,0,1] (fS [0,1] [vS s,vI i]) H rfl rfl rfl rfl (o_alloc [vU 0,vN,vI 0,vN,vF] (z:=vG [vU 0,vN,vI 0,vN,vF]) hd (by kernel_rfl) rfl) (fun _ => rfl) fun _ _ v H3 hq => ?_
 obtain ⟨b1,rfl,hq⟩:=hq
 replace hS : SH M X w [eB b1 [vU 0,vN,vI 0,vN,vF]] _:=hS.join [] [] rfl rfl hq
 refine wl_batch 1 2 [] [0,1,4] (fS [0,1,4] [vS s,vI i,vP b1]) [] H3 (by decide) (by kernel_rfl) trivial fun _ _ H5 hb => ?_
 replace hS:=hS.below hb
 apply wl_end rfl
 obtain ⟨ho6,hm⟩:=chkE hm
 refine s_reg [] [0,1,4,6] (fS [0,1,4,6] [vS s,vI i,vP b1,vU (bat s i)]) [fun _ => 0 ≤ i ∧ i < ln s] H5 (by kernel_rfl) ⟨ho6,trivial⟩ fun _ _ H8 hb => ?_
 replace hS:=hS.below hb
 apply w_seq
 apply w_block
 refine s_reg [(vB (r02_Space (bat s i)))] [0,1,4,6,14] (fS [0,1,4,6,14] [vS s,vI i,vP b1,vU (bat s i),vB (r02_Space (bat s i))]) [rB 102 [vU (bat s i)] (vB (r02_Space (bat s i)))] H8 (by kernel_rfl) ⟨((r02_Space_ok _).b),trivial⟩ fun _ _ H10 hb => ?_
 replace hS:=hS.below hb
 refine w_if H10 rfl (fun hc => ?c116) (fun hc => ?_)
 case c116 =>
  replace hm:=bT hc hm
  apply w_seq
  apply wl_start
  obtain ⟨y11,hy11,hm⟩:=bindE hm
  refine wl_batch 0 4 [(vI y11)] [4,17,20] (fS [4,17,20] [vP b1,vG [vU 13,vN,vI 0,vN,vF],vI y11]) [rB 103 [vS s,vI i] (vI y11)] H10 (by decide) (by kernel_rfl) ⟨((r02_spaces_ok m _ _ _ hy11).b),trivial⟩ fun _ _ H13 hb => ?_
  replace hS:=hS.below hb
  have hd:=hS.hand [0] [] rfl rfl
  refine m_stp0 [4,20] (fS [4,20] [vP b1,vI y11]) H13 rfl rfl rfl (o_store [vU 13,vN,vI 0,vN,vF] H13 hd rfl rfl (by kernel_rfl) rfl rfl rfl) rfl fun _ _ H15 hq => ?_
  obtain ⟨_,hq⟩:=hq
  replace hS : SH M X w [eB b1 [vU 13,vN,vI 0,vN,vF]] _:=hS.join [0] [] rfl rfl hq
  refine wl_batch 5 6 [] [4,5] (fS [4,5] [vP b1,vI y11]) [] H15 (by decide) (by kernel_rfl) trivial fun _ _ H17 hb => ?_
  replace hS:=hS.below hb
  apply wl_end rfl
  apply w_ret
  obtain rfl:=someE hm
  exact retR2 H17 rfl (oneRes_agg rfl (hS.bk 0 rfl) Tryz.underlying49 rfl (by kernel_rfl)) rfl ⟨_,rfl,rfl,(hS.sel [] rfl)⟩
 replace hm:=bF hc hm
 obtain ⟨x18,hx18,hm⟩:=letE hm
 refine s_reg [] [0,1,4,6,21] (fS [0,1,4,6,21] [vS s,vI i,vP b1,vU (bat s i),vB x18]) [] H10 (by subst hx18; kernel_rfl) trivial fun _ _ H20 hb => ?_
 replace hS:=hS.below hb
 refine w_if H20 rfl (fun hc => ?c115) (fun hc => ?_)
 case c115 =>
  replace hm:=bT hc hm
  apply w_seq
  apply wl_start
  obtain ⟨y21,hy21,hm⟩:=bindE hm
  refine wl_batch 0 5 [(vW [vG (cT y21.1),vI y21.2])] [4,31,32] (fS [4,31,32] [vP b1,vG (cT y21.1),vI y21.2]) [rB 104 [vS s,vI i] (vW [vG (cT y21.1),vI y21.2])] H20 (by decide) (by kernel_rfl) ⟨((r02_quoted_ok m _ _ _ hy21).b),trivial⟩ fun _ _ H23 hb => ?_
  replace hS:=hS.below hb
  have hd:=hS.hand [0] [] rfl rfl
  refine m_stp0 [4,32] (fS [4,32] [vP b1,vI y21.2]) H23 rfl rfl rfl (o_store (cT y21.1) H23 hd rfl rfl (by kernel_rfl) rfl rfl rfl) rfl fun _ _ H25 hq => ?_
  obtain ⟨_,hq⟩:=hq
  replace hS : SH M X w [eB b1 (cT y21.1)] _:=hS.join [0] [] rfl rfl hq
  refine wl_batch 6 7 [] [4,5] (fS [4,5] [vP b1,vI y21.2]) [] H25 (by decide) (by kernel_rfl) trivial fun _ _ H27 hb => ?_
  replace hS:=hS.below hb
  apply wl_end rfl
  apply w_ret
  obtain rfl:=someE hm
  exact retR2 H27 rfl (oneRes_agg rfl (hS.bk 0 rfl) Tryz.underlying49 rfl (by kernel_rfl)) rfl ⟨_,rfl,rfl,(hS.sel [] rfl)⟩
 replace hm:=bF hc hm
 obtain ⟨ho28,hm⟩:=chkE hm
 obtain ⟨y29,hy29,hm⟩:=bindE hm
 obtain ⟨x30,hx30,hm⟩:=letE hm
 refine s_reg [(vB (r02_Letter (bat s (w64 (i + 1))))),(vB y29)] [0,1,4,6,33] (fS [0,1,4,6,33] [vS s,vI i,vP b1,vU (bat s i),vB x30]) [fun _ => ((decide ((w64 (i + 1)) < (ln s))) = true ∧ ((bat s i) == 35) = true ∧ True → 0 ≤ (w64 (i + 1)) ∧ (w64 (i + 1)) < ln s),fun wz => ((decide ((w64 (i + 1)) < (ln s))) = true ∧ ((bat s i) == 35) = true ∧ True → RetB Tryz.prog 105 ⟨[vU (bat s (w64 (i + 1)))]⟩ (vB (r02_Letter (bat s (w64 (i + 1))))) wz),fun wz => ((cond (decide ((w64 (i + 1)) < (ln s))) (r02_Letter (bat s (w64 (i + 1)))) false) = false ∧ ((bat s i) == 35) = true ∧ True → RetB Tryz.prog 106 ⟨[vS s,vI (w64 (i + 1))]⟩ (vB y29) wz)] H20 (by subst hx30; kernel_rfl) ⟨fun hg => (ho28 hg.1 hg.2.1),fun hg => (r02_Letter_ok _).b,fun hg => (r02_Escape_ok _ _ _ (bF (hg.1) (bT (hg.2.1) hy29))).b,trivial⟩ fun _ _ H32 hb => ?_
 replace hS:=hS.below hb
 refine w_if H32 rfl (fun hc => ?c114) (fun hc => ?_)
 case c114 =>
  replace hm:=bT hc hm
  obtain ⟨y33,hy33,hm⟩:=bindE hm
  refine s_reg [(vW [vS y33.1,vI y33.2])] [0,1,4,7,8] (fS [0,1,4,7,8] [vS s,vI i,vP b1,vS y33.1,vI y33.2]) [rB 107 [vS s,vI (w64 (i + 1))] (vW [vS y33.1,vI y33.2])] H32 (by kernel_rfl) ⟨((r02_Named_ok m _ _ _ hy33).b),trivial⟩ fun _ _ H35 hb => ?_
  replace hS:=hS.below hb
  apply w_seq
  apply wl_start
  obtain ⟨y36,hy36,hm⟩:=bindE hm
  refine wl_batch 0 7 [(vB y36)] [4,68,69] (fS [4,68,69] [vP b1,vG [vU 4,vS y33.1,vI 0,vN,vB y36],vI y33.2]) [rB 108 [vS s,vI (w64 (i + 1))] (vB y36)] H35 (by decide) (by kernel_rfl) ⟨((r02_NameAt_ok _ _ _ hy36).b),trivial⟩ fun _ _ H38 hb => ?_
  replace hS:=hS.below hb
  have hd:=hS.hand [0] [] rfl rfl
  refine m_stp0 [4,69] (fS [4,69] [vP b1,vI y33.2]) H38 rfl rfl rfl (o_store [vU 4,vS y33.1,vI 0,vN,vB y36] H38 hd rfl rfl (by kernel_rfl) rfl rfl rfl) rfl fun _ _ H40 hq => ?_
  obtain ⟨_,hq⟩:=hq
  replace hS : SH M X w [eB b1 [vU 4,vS y33.1,vI 0,vN,vB y36]] _:=hS.join [0] [] rfl rfl hq
  refine wl_batch 8 9 [] [4,5] (fS [4,5] [vP b1,vI y33.2]) [] H40 (by decide) (by kernel_rfl) trivial fun _ _ H42 hb => ?_
  replace hS:=hS.below hb
  apply wl_end rfl
  apply w_ret
  obtain rfl:=someE hm
  exact retR2 H42 rfl (oneRes_agg rfl (hS.bk 0 rfl) Tryz.underlying49 rfl (by kernel_rfl)) rfl ⟨_,rfl,rfl,(hS.sel [] rfl)⟩
 replace hm:=bF hc hm
 obtain ⟨y43,hy43,hm⟩:=bindE hm
 refine s_reg [(vB y43)] [0,1,4,6,70] (fS [0,1,4,6,70] [vS s,vI i,vP b1,vU (bat s i),vB y43]) [rB 109 [vS s,vI i] (vB y43)] H32 (by kernel_rfl) ⟨((r02_NumberAt_ok _ _ _ hy43).b),trivial⟩ fun _ _ H45 hb => ?_
 replace hS:=hS.below hb
 refine w_if H45 rfl (fun hc => ?c113) (fun hc => ?_)
 case c113 =>
  replace hm:=bT hc hm
  apply w_seq
  apply wl_start
  obtain ⟨y46,hy46,hm⟩:=bindE hm
  refine wl_batch 0 5 [(vW [vG (cT y46.1),vI y46.2])] [4,77,78] (fS [4,77,78] [vP b1,vG (cT y46.1),vI y46.2]) [rB 110 [vS s,vI i] (vW [vG (cT y46.1),vI y46.2])] H45 (by decide) (by kernel_rfl) ⟨((r02_numeric_ok m _ _ _ hy46).b),trivial⟩ fun _ _ H48 hb => ?_
  replace hS:=hS.below hb
  have hd:=hS.hand [0] [] rfl rfl
  refine m_stp0 [4,78] (fS [4,78] [vP b1,vI y46.2]) H48 rfl rfl rfl (o_store (cT y46.1) H48 hd rfl rfl (by kernel_rfl) rfl rfl rfl) rfl fun _ _ H50 hq => ?_
  obtain ⟨_,hq⟩:=hq
  replace hS : SH M X w [eB b1 (cT y46.1)] _:=hS.join [0] [] rfl rfl hq
  refine wl_batch 6 7 [] [4,5] (fS [4,5] [vP b1,vI y46.2]) [] H50 (by decide) (by kernel_rfl) trivial fun _ _ H52 hb => ?_
  replace hS:=hS.below hb
  apply wl_end rfl
  apply w_ret
  obtain rfl:=someE hm
  exact retR2 H52 rfl (oneRes_agg rfl (hS.bk 0 rfl) Tryz.underlying49 rfl (by kernel_rfl)) rfl ⟨_,rfl,rfl,(hS.sel [] rfl)⟩
 replace hm:=bF hc hm
 obtain ⟨y53,hy53,hm⟩:=bindE hm
 refine s_reg [(vB y53)] [0,1,4,6,79] (fS [0,1,4,6,79] [vS s,vI i,vP b1,vU (bat s i),vB y53]) [rB 101 [vS s,vI i,vS [45,45,62]] (vB y53)] H45 (by kernel_rfl) ⟨((r02_has_ok _ _ _ _ hy53).b),trivial⟩ fun _ _ H55 hb => ?_
 replace hS:=hS.below hb
 refine w_if H55 rfl (fun hc => ?c112) (fun hc => ?_)
 case c112 =>
  replace hm:=bT hc hm
  apply w_seq
  apply wl_start
  refine wl_batch 0 3 [] [4,83,85] (fS [4,83,85] [vP b1,vG [vU 15,vN,vI 0,vN,vF],vI (w64 (i + 3))]) [] H55 (by decide) (by kernel_rfl) trivial fun _ _ H57 hb => ?_
  replace hS:=hS.below hb
  have hd:=hS.hand [0] [] rfl rfl
  refine m_stp0 [4,85] (fS [4,85] [vP b1,vI (w64 (i + 3))]) H57 rfl rfl rfl (o_store [vU 15,vN,vI 0,vN,vF] H57 hd rfl rfl (by kernel_rfl) rfl rfl rfl) rfl fun _ _ H59 hq => ?_
  obtain ⟨_,hq⟩:=hq
  replace hS : SH M X w [eB b1 [vU 15,vN,vI 0,vN,vF]] _:=hS.join [0] [] rfl rfl hq
  refine wl_batch 4 5 [] [4,5] (fS [4,5] [vP b1,vI (w64 (i + 3))]) [] H59 (by decide) (by kernel_rfl) trivial fun _ _ H61 hb => ?_
  replace hS:=hS.below hb
  apply wl_end rfl
  apply w_ret
  obtain rfl:=someE hm
  exact retR2 H61 rfl (oneRes_agg rfl (hS.bk 0 rfl) Tryz.underlying49 rfl (by kernel_rfl)) rfl ⟨_,rfl,rfl,(hS.sel [] rfl)⟩
 replace hm:=bF hc hm
 obtain ⟨y62,hy62,hm⟩:=bindE hm
 refine s_reg [(vB y62)] [0,1,4,6,86] (fS [0,1,4,6,86] [vS s,vI i,vP b1,vU (bat s i),vB y62]) [rB 101 [vS s,vI i,vS [60,33,45,45]] (vB y62)] H55 (by kernel_rfl) ⟨((r02_has_ok _ _ _ _ hy62).b),trivial⟩ fun _ _ H64 hb => ?_
 replace hS:=hS.below hb
 refine w_if H64 rfl (fun hc => ?c111) (fun hc => ?_)
 case c111 =>
  replace hm:=bT hc hm
  apply w_seq
  apply wl_start
  refine wl_batch 0 3 [] [4,90,92] (fS [4,90,92] [vP b1,vG [vU 14,vN,vI 0,vN,vF],vI (w64 (i + 4))]) [] H64 (by decide) (by kernel_rfl) trivial fun _ _ H66 hb => ?_
  replace hS:=hS.below hb
  have hd:=hS.hand [0] [] rfl rfl
  refine m_stp0 [4,92] (fS [4,92] [vP b1,vI (w64 (i + 4))]) H66 rfl rfl rfl (o_store [vU 14,vN,vI 0,vN,vF] H66 hd rfl rfl (by kernel_rfl) rfl rfl rfl) rfl fun _ _ H68 hq => ?_
  obtain ⟨_,hq⟩:=hq
  replace hS : SH M X w [eB b1 [vU 14,vN,vI 0,vN,vF]] _:=hS.join [0] [] rfl rfl hq
  refine wl_batch 4 5 [] [4,5] (fS [4,5] [vP b1,vI (w64 (i + 4))]) [] H68 (by decide) (by kernel_rfl) trivial fun _ _ H70 hb => ?_
  replace hS:=hS.below hb
  apply wl_end rfl
  apply w_ret
  obtain rfl:=someE hm
  exact retR2 H70 rfl (oneRes_agg rfl (hS.bk 0 rfl) Tryz.underlying49 rfl (by kernel_rfl)) rfl ⟨_,rfl,rfl,(hS.sel [] rfl)⟩
 replace hm:=bF hc hm
 obtain ⟨y71,hy71,hm⟩:=bindE hm
 refine s_reg [(vB y71)] [0,1,4,6,93] (fS [0,1,4,6,93] [vS s,vI i,vP b1,vU (bat s i),vB (cond ((bat s i) == 64) y71 false)]) [fun wz => (((bat s i) == 64) = true ∧ True → RetB Tryz.prog 108 ⟨[vS s,vI (w64 (i + 1))]⟩ (vB y71) wz)] H64 (by kernel_rfl) ⟨fun hg => (r02_NameAt_ok _ _ _ (bT (hg.1) hy71)).b,trivial⟩ fun _ _ H73 hb => ?_
 replace hS:=hS.below hb
 refine w_if H73 rfl (fun hc => ?c110) (fun hc => ?_)
 case c110 =>
  replace hm:=bT hc hm
  obtain ⟨y74,hy74,hm⟩:=bindE hm
  refine s_reg [(vW [vS y74.1,vI y74.2])] [4,9,10] (fS [4,9,10] [vP b1,vS y74.1,vI y74.2]) [rB 107 [vS s,vI (w64 (i + 1))] (vW [vS y74.1,vI y74.2])] H73 (by kernel_rfl) ⟨((r02_Named_ok m _ _ _ hy74).b),trivial⟩ fun _ _ H76 hb => ?_
  replace hS:=hS.below hb
  apply w_seq
  apply wl_start
  refine wl_batch 0 3 [] [4,110,111] (fS [4,110,111] [vP b1,vG [vU 3,vS y74.1,vI 0,vN,vF],vI y74.2]) [] H76 (by decide) (by kernel_rfl) trivial fun _ _ H78 hb => ?_
  replace hS:=hS.below hb
  have hd:=hS.hand [0] [] rfl rfl
  refine m_stp0 [4,111] (fS [4,111] [vP b1,vI y74.2]) H78 rfl rfl rfl (o_store [vU 3,vS y74.1,vI 0,vN,vF] H78 hd rfl rfl (by kernel_rfl) rfl rfl rfl) rfl fun _ _ H80 hq => ?_
  obtain ⟨_,hq⟩:=hq
  replace hS : SH M X w [eB b1 [vU 3,vS y74.1,vI 0,vN,vF]] _:=hS.join [0] [] rfl rfl hq
  refine wl_batch 4 5 [] [4,5] (fS [4,5] [vP b1,vI y74.2]) [] H80 (by decide) (by kernel_rfl) trivial fun _ _ H82 hb => ?_
  replace hS:=hS.below hb
  apply wl_end rfl
  apply w_ret
  obtain rfl:=someE hm
  exact retR2 H82 rfl (oneRes_agg rfl (hS.bk 0 rfl) Tryz.underlying49 rfl (by kernel_rfl)) rfl ⟨_,rfl,rfl,(hS.sel [] rfl)⟩
 replace hm:=bF hc hm
 obtain ⟨y83,hy83,hm⟩:=bindE hm
 refine s_reg [(vB y83)] [0,1,4,6,112] (fS [0,1,4,6,112] [vS s,vI i,vP b1,vU (bat s i),vB y83]) [rB 108 [vS s,vI i] (vB y83)] H73 (by kernel_rfl) ⟨((r02_NameAt_ok _ _ _ hy83).b),trivial⟩ fun _ _ H85 hb => ?_
 replace hS:=hS.below hb
 refine w_if H85 rfl (fun hc => ?c109) (fun hc => ?_)
 case c109 =>
  replace hm:=bT hc hm
  apply w_seq
  apply wl_start
  obtain ⟨y86,hy86,hm⟩:=bindE hm
  refine wl_batch 0 5 [(vW [vG (cT y86.1),vI y86.2])] [4,119,120] (fS [4,119,120] [vP b1,vG (cT y86.1),vI y86.2]) [rB 111 [vS s,vI i] (vW [vG (cT y86.1),vI y86.2])] H85 (by decide) (by kernel_rfl) ⟨((r02_word_ok m _ _ _ hy86).b),trivial⟩ fun _ _ H88 hb => ?_
  replace hS:=hS.below hb
  have hd:=hS.hand [0] [] rfl rfl
  refine m_stp0 [4,120] (fS [4,120] [vP b1,vI y86.2]) H88 rfl rfl rfl (o_store (cT y86.1) H88 hd rfl rfl (by kernel_rfl) rfl rfl rfl) rfl fun _ _ H90 hq => ?_
  obtain ⟨_,hq⟩:=hq
  replace hS : SH M X w [eB b1 (cT y86.1)] _:=hS.join [0] [] rfl rfl hq
  refine wl_batch 6 7 [] [4,5] (fS [4,5] [vP b1,vI y86.2]) [] H90 (by decide) (by kernel_rfl) trivial fun _ _ H92 hb => ?_
  replace hS:=hS.below hb
  apply wl_end rfl
  apply w_ret
  obtain rfl:=someE hm
  exact retR2 H92 rfl (oneRes_agg rfl (hS.bk 0 rfl) Tryz.underlying49 rfl (by kernel_rfl)) rfl ⟨_,rfl,rfl,(hS.sel [] rfl)⟩
 replace hm:=bF hc hm
 refine s_reg [(vU (r02_mark (bat s i)))] [0,1,4,6,121] (fS [0,1,4,6,121] [vS s,vI i,vP b1,vU (bat s i),vB ((r02_mark (bat s i)) != 0)]) [rB 112 [vU (bat s i)] (vU (r02_mark (bat s i)))] H85 (by kernel_rfl) ⟨((r02_mark_ok _).b),trivial⟩ fun _ _ H94 hb => ?_
 replace hS:=hS.below hb
 refine w_if H94 rfl (fun hc => ?c108) (fun hc => ?_)
 case c108 =>
  replace hm:=bT hc hm
  apply w_seq
  apply wl_start
  refine wl_batch 0 5 [(vU (r02_mark (bat s i)))] [4,127,129] (fS [4,127,129] [vP b1,vG [vU (r02_mark (bat s i)),vN,vI 0,vN,vF],vI (w64 (i + 1))]) [rB 112 [vU (bat s i)] (vU (r02_mark (bat s i)))] H94 (by decide) (by kernel_rfl) ⟨((r02_mark_ok _).b),trivial⟩ fun _ _ H96 hb => ?_
  replace hS:=hS.below hb
  have hd:=hS.hand [0] [] rfl rfl
  refine m_stp0 [4,129] (fS [4,129] [vP b1,vI (w64 (i + 1))]) H96 rfl rfl rfl (o_store [vU (r02_mark (bat s i)),vN,vI 0,vN,vF] H96 hd rfl rfl (by kernel_rfl) rfl rfl rfl) rfl fun _ _ H98 hq => ?_
  obtain ⟨_,hq⟩:=hq
  replace hS : SH M X w [eB b1 [vU (r02_mark (bat s i)),vN,vI 0,vN,vF]] _:=hS.join [0] [] rfl rfl hq
  refine wl_batch 6 7 [] [4,5] (fS [4,5] [vP b1,vI (w64 (i + 1))]) [] H98 (by decide) (by kernel_rfl) trivial fun _ _ H100 hb => ?_
  replace hS:=hS.below hb
  apply wl_end rfl
  apply w_ret
  obtain rfl:=someE hm
  exact retR2 H100 rfl (oneRes_agg rfl (hS.bk 0 rfl) Tryz.underlying49 rfl (by kernel_rfl)) rfl ⟨_,rfl,rfl,(hS.sel [] rfl)⟩
 replace hm:=bF hc hm
 apply w_skip
 apply w_seq
 apply wl_start
 obtain ⟨ho101,hm⟩:=chkE hm
 refine wl_batch 0 8 [] [4,135,137] (fS [4,135,137] [vP b1,vG [vU 9,vS (sub s i (w64 (i + 1))),vI 0,vN,vF],vI (w64 (i + 1))]) [fun _ => 0 ≤ i ∧ i ≤ (w64 (i + 1)) ∧ (w64 (i + 1)) ≤ ln s] H94 (by decide) (by kernel_rfl) ⟨ho101,trivial⟩ fun _ _ H103 hb => ?_
 replace hS:=hS.below hb
 have hd:=hS.hand [0] [] rfl rfl
 refine m_stp0 [4,137] (fS [4,137] [vP b1,vI (w64 (i + 1))]) H103 rfl rfl rfl (o_store [vU 9,vS (sub s i (w64 (i + 1))),vI 0,vN,vF] H103 hd rfl rfl (by kernel_rfl) rfl rfl rfl) rfl fun _ _ H105 hq => ?_
 obtain ⟨_,hq⟩:=hq
 replace hS : SH M X w [eB b1 [vU 9,vS (sub s i (w64 (i + 1))),vI 0,vN,vF]] _:=hS.join [0] [] rfl rfl hq
 refine wl_batch 9 10 [] [4,5] (fS [4,5] [vP b1,vI (w64 (i + 1))]) [] H105 (by decide) (by kernel_rfl) trivial fun _ _ H107 hb => ?_
 replace hS:=hS.below hb
 apply wl_end rfl
 apply w_ret
 obtain rfl:=someE hm
 exact retR2 H107 rfl (oneRes_agg rfl (hS.bk 0 rfl) Tryz.underlying49 rfl (by kernel_rfl)) rfl ⟨_,rfl,rfl,(hS.sel [] rfl)⟩
theorem r02_One_ok  (m : Nat) (s : Str) (i : Int) (r : TToken × Int) (hm : r02_One m s i = some r) : Ret Tryz.prog 92 ⟨[vS s,vI i]⟩ (vW [vG (cT r.1),vI r.2]):=retP_of (Tryz.call92 _) (fun w h => r02_One_w F0 m   s i r hm w h)

def tyA2_int : Ty TA2_int where
  z:=2
  enc:=fun x g => [vI x.e0,vI x.e1]
  inn:=fun _ _ _ _ => True
  len:=fun _ _ => rfl
  one:=fun _ _ => rfl
  kp:=fun _ _ _ => trivial
  anti:=fun _ _ => trivial
  fresh:=fun _ => trivial
theorem r02_Cut_w  (M : Av) (m : Nat) (s : Str) (r : (List TToken) × (List TA2_int)) (hm : r02_Cut m s = some r) (w : World) (hS : S0 M [] w) : Calls Tryz.prog 73 ⟨[vS s]⟩ w (fun e w' => ∃ v,e = .returned v ∧ ∃ (g901 : Gh) (g903 : Gh),v = vW [vL g901 r.1,vL g903 r.2] ∧ SH M (fpl []) w [eO 49 tyToken r.1 g901,eO 150 tyA2_int r.2 g903] w'):=by
 rw [r02_Cut] at hm
 have hS0 : SH M (fpl []) w [] w:=hS
 generalize hX : fpl [] = X at hS0 ⊢
 clear hS hX
 have hS:=hS0
 clear hS0
 refine calls_entryP Tryz.func73 rfl Tryz.ntmps73 rfl fun _ H => ?_
 refine s_reg [] [0] [(0,[],vS s)] [] H (by kernel_rfl) trivial fun _ _ H2 hb => ?_
 replace hS:=hS.below hb
 refine s_reg [] [0,4] (fS [0,4] [vS s,vO]) [] H2 (by kernel_rfl) trivial fun _ _ H4 hb => ?_
 replace hS:=hS.below hb
 refine s_reg [] [0,4,5] (fS [0,4,5] [vS s,vO,vO]) [] H4 (by kernel_rfl) trivial fun _ _ H6 hb => ?_
 replace hS:=hS.below hb
 obtain ⟨z7,hz,hm⟩:=bindE hm
 refine w_cut (fun a' w' => ∃ (g59 : Gh) (g61 : Gh),Fr 36 (fS [4,5] [vL g59 z7.1,vL g61 z7.2]) a' ∧ SH M X w [eO 49 tyToken z7.1 g59,eO 150 tyA2_int z7.2 g61] w') ?_ ?_
 ·replace hm:=hz
  obtain ⟨y8,hy8,hm⟩:=bindE hm
  refine s_reg [(vI y8)] [0,4,5,6] (fS [0,4,5,6] [vS s,vO,vO,vI y8]) [rB 91 [vS s,vI 0] (vI y8)] H6 (by kernel_rfl) ⟨((r02_Past_ok m _ _ _ hy8).b),trivial⟩ fun _ _ H10 hb => ?_
  replace hS:=hS.below hb
  apply w_block
  replace hS : SH M X w [eO 49 tyToken ([] : List TToken) (.nil)] _:=hS.addNil 49 tyToken
  replace hS : SH M X w [eO 150 tyA2_int ([] : List TA2_int) (.nil),eO 49 tyToken ([] : List TToken) (.nil)] _:=hS.addNil 150 tyA2_int
  refine w_loop (fun kk a' w' => ∃ (v13 : List TToken) (v15 : List TA2_int) (v17 : Int) (g14 : Gh) (g16 : Gh),r02_Cut_L1 m s kk v13 v15 v17 = some _ ∧ Fr 36 (fS [0,4,5,6] [vS s,vL g14 v13,vL g16 v15,vI v17]) a' ∧ SH M X w [eO 150 tyA2_int v15 g16,eO 49 tyToken v13 g14] w') ⟨_,([] : List TToken),([] : List TA2_int),y8,Gh.nil,Gh.nil,hm,FrG.keep (ks:=[0,4,5,6]) H10 (by kernel_rfl),hS⟩ ?_
  clear hm H10 hS
  rintro kk _ _ ⟨v13,v15,v17,g14,g16,hm,H,hS⟩
  cases kk with
  | zero => exact noneE hm
  | succ kk =>
   rw [r02_Cut_L1] at hm
   apply w_seq
   refine s_reg [] [0,4,5,6,14] (fS [0,4,5,6,14] [vS s,vL g14 v13,vL g16 v15,vI v17,vB (decide (v17 < (ln s)))]) [] H (by kernel_rfl) trivial fun _ _ H19 hb => ?_
   replace hS:=hS.below hb
   refine w_if H19 rfl (fun hc => ?_) (fun hc => ?c57)
   case c57 =>
    replace hm:=bF hc hm
    apply w_exit rfl
    obtain rfl:=someE hm
    replace hS : SH M X w [eO 49 tyToken v13 g14,eO 150 tyA2_int v15 g16] _:=hS.sel [1,0] rfl
    exact ⟨g14,g16,FrG.keep (ks:=[4,5]) H19 (by kernel_rfl),hS⟩
   replace hm:=bT hc hm
   apply w_skip
   apply w_block
   apply w_seq
   apply wl_start
   obtain ⟨y20,hy20,hm⟩:=bindE hm
   refine wl_batch 0 6 [(vW [vG (cT y20.1),vI y20.2])] [0,4,5,6,19,20] (fS [0,4,5,6,19,20] [vS s,vL g14 v13,vL g16 v15,vI v17,vG (cT y20.1),vI y20.2]) [rB 92 [vS s,vI v17] (vW [vG (cT y20.1),vI y20.2])] H19 (by decide) (by kernel_rfl) ⟨((r02_One_ok m _ _ _ hy20).b),trivial⟩ fun _ _ H22 hb => ?_
   replace hS:=hS.below hb
   have hd:=hS.hand [] [0,1] rfl rfl
   refine m_stp [7,0,4,5,6,19,20] (fS [0,4,5,6,19,20] [vS s,vL g14 v13,vL g16 v15,vI v17,vG (cT y20.1),vI y20.2]) H22 rfl rfl rfl rfl (o_alloc [vU 0,vN,vI 0,vN,vF] (z:=vG [vU 0,vN,vI 0,vN,vF]) hd (by kernel_rfl) rfl) (fun _ => rfl) fun _ _ v H25 hq => ?_
   obtain ⟨b23,rfl,hq⟩:=hq
   replace hS : SH M X w [eB b23 [vU 0,vN,vI 0,vN,vF],eO 150 tyA2_int v15 g16,eO 49 tyToken v13 g14] _:=hS.join [] [0,1] rfl rfl hq
   have hd:=hS.hand [0] [1,2] rfl rfl
   refine m_stp0 [0,4,5,6,7,20] (fS [0,4,5,6,7,20] [vS s,vL g14 v13,vL g16 v15,vI v17,vP b23,vI y20.2]) H25 rfl rfl rfl (o_store (cT y20.1) H25 hd rfl rfl (by kernel_rfl) rfl rfl rfl) rfl fun _ _ H27 hq => ?_
   obtain ⟨_,hq⟩:=hq
   replace hS : SH M X w [eB b23 (cT y20.1),eO 150 tyA2_int v15 g16,eO 49 tyToken v13 g14] _:=hS.join [0] [1,2] rfl rfl hq
   refine wl_batch 8 9 [] [0,4,5,6,7,8] (fS [0,4,5,6,7,8] [vS s,vL g14 v13,vL g16 v15,vI v17,vP b23,vI y20.2]) [] H27 (by decide) (by kernel_rfl) trivial fun _ _ H29 hb => ?_
   replace hS:=hS.below hb
   apply wl_end rfl
   apply w_seq
   apply wl_start
   refine wl_batch 0 2 [(vG (cT y20.1))] [0,5,6,8,21,22] (fS [0,5,6,8,21,22] [vS s,vL g16 v15,vI v17,vI y20.2,vL g14 v13,vG (cT y20.1)]) [rN b23 0 (cT y20.1)] H29 (by decide) (by kernel_rfl) ⟨((hS.bk 0 rfl).atD rfl),trivial⟩ fun _ _ H31 hb => ?_
   replace hS:=hS.below hb
   have hd:=hS.hand [] [0,1,2] rfl rfl
   refine m_stp [23,0,5,6,8,21] (fS [0,5,6,8,21] [vS s,vL g16 v15,vI v17,vI y20.2,vL g14 v13]) H31 rfl rfl rfl rfl (o_lit (T:=tyToken) (E:=49) (zv:=vG [vU 0,vN,vI 0,vN,vF]) (cT y20.1) ([y20.1] : List TToken) [gL []] _ H31 hd rfl (by kernel_rfl) (by kernel_rfl) (by kernel_rfl) (by kernel_rfl) (by kernel_rfl) (by kernel_rfl) (by kernel_rfl) rfl (InnL.cons trivial InnL.nil)) (fun _ => rfl) fun _ _ v H35 hq => ?_
   obtain ⟨g32,rfl,hq⟩:=hq
   replace hS : SH M X w [eO 49 tyToken ([y20.1] : List TToken) g32,eB b23 (cT y20.1),eO 150 tyA2_int v15 g16,eO 49 tyToken v13 g14] _:=hS.join [] [0,1,2] rfl rfl hq
   obtain ⟨ho36,hm⟩:=chkE hm
   obtain ⟨q37,hq37,hm⟩:=letE hm
   have hd:=hS.hand [3,0] [1,2] rfl rfl
   refine m_stp [24,0,5,6,8] (fS [0,5,6,8] [vS s,vL g16 v15,vI v17,vI y20.2]) H35 rfl rfl rfl rfl (o_app2 (T:=tyToken) (zv:=vG [vU 0,vN,vI 0,vN,vF]) (g1:=g14) (g2:=g32) (l1:=v13) (l2:=([y20.1] : List TToken)) q37 hq37.symm H35 hd rfl rfl rfl rfl rfl rfl rfl (by kernel_rfl) (by kernel_rfl) rfl rfl ho36) (fun _ => rfl) fun _ _ v H39 hq => ?_
   obtain ⟨g40,rfl,hq⟩:=hq
   replace hS : SH M X w [eO 49 tyToken q37 g40,eO 49 tyToken ([y20.1] : List TToken) g32,eB b23 (cT y20.1),eO 150 tyA2_int v15 g16] _:=hS.join [3,0] [1,2] rfl rfl hq
   refine wl_batch 4 8 [] [0,8,24,25,28] (fS [0,8,24,25,28] [vS s,vI y20.2,vL g40 q37,vL g16 v15,vG [vI v17,vI y20.2]]) [] H39 (by decide) (by kernel_rfl) trivial fun _ _ H42 hb => ?_
   replace hS:=hS.below hb
   have hd:=hS.hand [] [0,1,2,3] rfl rfl
   refine m_stp [29,0,8,24,25] (fS [0,8,24,25] [vS s,vI y20.2,vL g40 q37,vL g16 v15]) H42 rfl rfl rfl rfl (o_lit (T:=tyA2_int) (E:=150) (zv:=vG [vI 0,vI 0]) [vI v17,vI y20.2] ([(TA2_int.mk v17 y20.2)] : List TA2_int) [gL []] _ H42 hd rfl (by kernel_rfl) (by kernel_rfl) (by kernel_rfl) (by kernel_rfl) (by kernel_rfl) (by kernel_rfl) (by kernel_rfl) rfl (InnL.cons trivial InnL.nil)) (fun _ => rfl) fun _ _ v H46 hq => ?_
   obtain ⟨g43,rfl,hq⟩:=hq
   replace hS : SH M X w [eO 150 tyA2_int ([(TA2_int.mk v17 y20.2)] : List TA2_int) g43,eO 49 tyToken q37 g40,eO 49 tyToken ([y20.1] : List TToken) g32,eB b23 (cT y20.1),eO 150 tyA2_int v15 g16] _:=hS.join [] [0,1,2,3] rfl rfl hq
   obtain ⟨ho47,hm⟩:=chkE hm
   obtain ⟨q48,hq48,hm⟩:=letE hm
   have hd:=hS.hand [4,0] [1,2,3] rfl rfl
   refine m_stp [30,0,8,24] (fS [0,8,24] [vS s,vI y20.2,vL g40 q37]) H46 rfl rfl rfl rfl (o_app2 (T:=tyA2_int) (zv:=vG [vI 0,vI 0]) (g1:=g16) (g2:=g43) (l1:=v15) (l2:=([(TA2_int.mk v17 y20.2)] : List TA2_int)) q48 hq48.symm H46 hd rfl rfl rfl rfl rfl rfl rfl (by kernel_rfl) (by kernel_rfl) rfl rfl ho47) (fun _ => rfl) fun _ _ v H50 hq => ?_
   obtain ⟨g51,rfl,hq⟩:=hq
   replace hS : SH M X w [eO 150 tyA2_int q48 g51,eO 150 tyA2_int ([(TA2_int.mk v17 y20.2)] : List TA2_int) g43,eO 49 tyToken q37 g40,eO 49 tyToken ([y20.1] : List TToken) g32,eB b23 (cT y20.1)] _:=hS.join [4,0] [1,2,3] rfl rfl hq
   refine wl_batch 10 12 [] [0,4,5,8] (fS [0,4,5,8] [vS s,vL g40 q37,vL g51 q48,vI y20.2]) [] H50 (by decide) (by kernel_rfl) trivial fun _ _ H53 hb => ?_
   replace hS:=hS.below hb
   apply wl_end rfl
   replace hS : SH M X w [eO 150 tyA2_int q48 g51,eO 49 tyToken q37 g40] _:=hS.sel [0,2] rfl
   obtain ⟨y54,hy54,hm⟩:=bindE hm
   refine w_reg [(vI y54)] [0,4,5,6] (fS [0,4,5,6] [vS s,vL g40 q37,vL g51 q48,vI y54]) [rB 91 [vS s,vI y20.2] (vI y54)] H53 (by kernel_rfl) ⟨((r02_Past_ok m _ _ _ hy54).b),trivial⟩ fun _ _ H56 hb => ?_
   replace hS:=hS.below hb
   exact ⟨_,Nat.lt_succ_self _,q37,q48,y54,g40,g51,hm,FrG.keep (ks:=[0,4,5,6]) H56 (by kernel_rfl),hS⟩
 ·rintro _ _ ⟨g59,g61,H,hS⟩
  refine s_reg [] [2,3] (fS [2,3] [vL g59 z7.1,vL g61 z7.2]) [] H (by kernel_rfl) trivial fun _ _ H64 hb => ?_
  replace hS:=hS.below hb
  apply w_ret
  obtain rfl:=someE hm
  exact retR2 H64 rfl rfl rfl ⟨_,rfl,g59,g61,rfl,(hS.sel [0,1] rfl)⟩
theorem r02_Cut_ok  (m : Nat) (s : Str) (r : (List TToken) × (List TA2_int)) (hm : r02_Cut m s = some r) (M : Av) (w : World) (hS : S0 M [] w) : DoesX Tryz.prog 73 ⟨[vS s]⟩ w (fun v w' => ∃ (g901 : Gh) (g903 : Gh),v = vW [vL g901 r.1,vL g903 r.2] ∧ SH M (fpl []) w [eO 49 tyToken r.1 g901,eO 150 tyA2_int r.2 g903] w'):=⟨Tryz.call73 _,r02_Cut_w M m   s r hm w hS⟩

theorem r02_Tokens_w  (M : Av) (m : Nat) (s : Str) (r : (List TToken) × Int) (hm : r02_Tokens m s = some r) (w : World) (hS : S0 M [] w) : Calls Tryz.prog 49 ⟨[vS s]⟩ w (fun e w' => ∃ v,e = .returned v ∧ ∃ (g901 : Gh),v = vW [vL g901 r.1,vI r.2] ∧ SH M (fpl []) w [eO 49 tyToken r.1 g901] w'):=by
 rw [r02_Tokens] at hm
 have hS0 : SH M (fpl []) w [] w:=hS
 generalize hX : fpl [] = X at hS0 ⊢
 clear hS hX
 have hS:=hS0
 clear hS0
 refine calls_entryP Tryz.func49 rfl Tryz.ntmps49 rfl fun _ H => ?_
 refine s_reg [] [0] [(0,[],vS s)] [] H (by kernel_rfl) trivial fun _ _ H2 hb => ?_
 replace hS:=hS.below hb
 obtain ⟨y3,hy3,hm⟩:=bindE hm
 refine s_reg [(vW [vS y3.1,vI y3.2])] [4,5] (fS [4,5] [vS y3.1,vI y3.2]) [rB 72 [vS s] (vW [vS y3.1,vI y3.2])] H2 (by kernel_rfl) ⟨((r01_Clean_ok m _ _ hy3).b),trivial⟩ fun _ _ H5 hb => ?_
 replace hS:=hS.below hb
 apply w_seq
 refine s_reg [] [4,5,14] (fS [4,5,14] [vS y3.1,vI y3.2,vB (y3.2 != 0)]) [] H5 (by kernel_rfl) trivial fun _ _ H7 hb => ?_
 replace hS:=hS.below hb
 refine w_if H7 rfl (fun hc => ?c30) (fun hc => ?_)
 case c30 =>
  replace hm:=bT hc hm
  refine s_reg [] [2,3] (fS [2,3] [vO,vI y3.2]) [] H7 (by kernel_rfl) trivial fun _ _ H9 hb => ?_
  replace hS:=hS.below hb
  apply w_ret
  obtain rfl:=someE hm
  replace hS : SH M X w [eO 49 tyToken ([] : List TToken) (.nil)] _:=hS.addNil 49 tyToken
  exact retR2 H9 rfl rfl rfl ⟨_,rfl,Gh.nil,rfl,(hS.sel [0] rfl)⟩
 replace hm:=bF hc hm
 apply w_skip
 apply w_seq
 apply wl_start
 refine wl_batch 0 1 [] [17] [(17,[],vS y3.1)] [] H7 (by decide) (by kernel_rfl) trivial fun _ _ H12 hb => ?_
 replace hS:=hS.below hb
 obtain ⟨y13,hy13,hm⟩:=bindE hm
 have hd:=hS.hand [] [] rfl rfl
 refine m_stp [18] [] H12 rfl rfl rfl rfl (o_callx H12 rfl rfl (r02_Cut_ok m _ _ hy13 _ _ hd)) (fun _ => rfl) fun _ _ v H19 hq => ?_
 obtain ⟨g14,g16,rfl,hq⟩:=hq
 replace hS : SH M X w [eO 49 tyToken y13.1 g14,eO 150 tyA2_int y13.2 g16] _:=hS.join [] [] rfl rfl hq
 refine wl_batch 2 7 [] [6] [(6,[],vL g14 y13.1)] [] H19 (by decide) (by kernel_rfl) trivial fun _ _ H21 hb => ?_
 replace hS:=hS.below hb
 apply wl_end rfl
 replace hS : SH M X w [eO 49 tyToken y13.1 g14] _:=hS.sel [0] rfl
 apply w_seq
 refine s_reg [] [6,23] (fS [6,23] [vL g14 y13.1,vB (decide (1500 < (ln y13.1)))]) [] H21 (by kernel_rfl) trivial fun _ _ H23 hb => ?_
 replace hS:=hS.below hb
 refine w_if H23 rfl (fun hc => ?_) (fun hc => ?c29)
 case c29 =>
  replace hm:=bF hc hm
  apply w_skip
  refine s_reg [] [2,3] (fS [2,3] [vL g14 y13.1,vI 0]) [] H23 (by kernel_rfl) trivial fun _ _ H28 hb => ?_
  replace hS:=hS.below hb
  apply w_ret
  obtain rfl:=someE hm
  exact retR2 H28 rfl rfl rfl ⟨_,rfl,g14,rfl,(hS.sel [0] rfl)⟩
 replace hm:=bT hc hm
 refine s_reg [] [2,3] (fS [2,3] [vO,vI 4]) [] H23 (by kernel_rfl) trivial fun _ _ H25 hb => ?_
 replace hS:=hS.below hb
 replace hS : SH M X w [] _:=hS.sel [] rfl
 apply w_ret
 obtain rfl:=someE hm
 replace hS : SH M X w [eO 49 tyToken ([] : List TToken) (.nil)] _:=hS.addNil 49 tyToken
 exact retR2 H25 rfl rfl rfl ⟨_,rfl,Gh.nil,rfl,(hS.sel [0] rfl)⟩
theorem r02_Tokens_ok  (m : Nat) (s : Str) (r : (List TToken) × Int) (hm : r02_Tokens m s = some r) (M : Av) (w : World) (hS : S0 M [] w) : DoesX Tryz.prog 49 ⟨[vS s]⟩ w (fun v w' => ∃ (g901 : Gh),v = vW [vL g901 r.1,vI r.2] ∧ SH M (fpl []) w [eO 49 tyToken r.1 g901] w'):=⟨Tryz.call49 _,r02_Tokens_w M m   s r hm w hS⟩

def enc_TValue (x : TValue) (g : Nat → Gh) : List Value:=[vU x.Token.Kind,vS x.Token.Text,vI x.Token.Num,vS x.Token.Unit,vB x.Token.Flag,.slice (g 0).a x.List_.length (g 0).c]
inductive Inn_TValue (M : Av) (w : World) : TValue → (Nat → Gh) → Prop
  | mk (x : TValue) (g : Nat → Gh) (h0 : SlC 6 enc_TValue M w x.List_ (g 0)) (h1 : ∀ i (h : i < x.List_.length),Inn_TValue M w x.List_[i] ((g 0).s i)) : Inn_TValue M w x g
theorem Inn_TValue_kp {M : Av} {w w' : World} {X : List Nat} {x : TValue} {g : Nat → Gh} (h : Inn_TValue M w x g) (k : Kp X w w') (hX : ∀ b ∈ X,M b) : Inn_TValue M w' x g:=by
  induction h with
  | mk x g h0 _h1 ih1 => exact .mk x g (h0.kp k hX) ih1
theorem Inn_TValue_anti {M M' : Av} {w : World} {x : TValue} {g : Nat → Gh} (h : Inn_TValue M w x g) (hM : ∀ b,M' b → M b) : Inn_TValue M' w x g:=by
  induction h with
  | mk x g h0 _h1 ih1 => exact .mk x g (h0.anti hM) ih1
theorem Inn_TValue_fresh {M : Av} {w : World} {x : TValue} {g : Nat → Gh} (h : Inn_TValue M w x g) : Inn_TValue (fun b => M b ∨ w.heap.size ≤ b) w x g:=by
  induction h with
  | mk x g h0 _h1 ih1 => exact .mk x g (h0.fresh) ih1
def tyValue : Ty TValue where
  z:=6
  enc:=enc_TValue
  inn:=Inn_TValue
  len:=fun _ _ => rfl
  one:=fun _ _ => rfl
  kp:=fun h k hX => Inn_TValue_kp h k hX
  anti:=fun h hM => Inn_TValue_anti h hM
  fresh:=fun h => Inn_TValue_fresh h
theorem tyValue_i0 {M : Av} {w : World} {x : TValue} {g : Nat → Gh} (h : tyValue.inn M w x g) : SlG tyValue M w x.List_ (g 0):=by
  have h : Inn_TValue M w x g:=h
  cases h with
  | mk _ _ h0 h1 => exact ⟨h0,h1⟩
theorem tyValue_mk {M : Av} {w : World} {x : TValue} {g : Nat → Gh} (k0 : SlG tyValue M w x.List_ (g 0)) : tyValue.inn M w x g:=(Inn_TValue.mk x g k0.1 k0.2 : Inn_TValue M w x g)
theorem r04_Closer_w  (M : Av) (kind : Int) (r : Int) (hm : r04_Closer kind = r) (w : World) (hS : S0 M [] w) : Calls Tryz.prog 56 ⟨[vU kind]⟩ w (fun e w' => ∃ v,e = .returned v ∧ v = vU r ∧ SH M (fpl []) w [] w'):=by
 rw [r04_Closer] at hm
 have hS0 : SH M (fpl []) w [] w:=hS
 generalize hX : fpl [] = X at hS0 ⊢
 clear hS hX
 have hS:=hS0
 clear hS0
 refine calls_entryP Tryz.func56 rfl Tryz.ntmps56 rfl fun _ H => ?_
 refine s_reg [] [0] [(0,[],vU kind)] [] H (by kernel_rfl) trivial fun _ _ H2 hb => ?_
 replace hS:=hS.below hb
 apply w_seq
 refine s_reg [] [3] [(3,[],vU kind)] [] H2 (by kernel_rfl) trivial fun _ _ H4 hb => ?_
 replace hS:=hS.below hb
 apply w_block
 refine s_reg [] [3,4] (fS [3,4] [vU kind,vB (kind == 19)]) [] H4 (by kernel_rfl) trivial fun _ _ H6 hb => ?_
 replace hS:=hS.below hb
 refine w_if H6 rfl (fun hc => ?c26) (fun hc => ?_)
 case c26 =>
  replace hm:=bT hc hm
  refine s_reg [] [2] [(2,[],vU 20)] [] H6 (by kernel_rfl) trivial fun _ _ H8 hb => ?_
  replace hS:=hS.below hb
  apply w_ret
  subst hm
  exact retR1 H8 rfl rfl ⟨_,rfl,rfl,(hS.sel [] rfl)⟩
 replace hm:=bF hc hm
 obtain ⟨z9,hz,hm⟩:=letE hm
 refine w_cut (fun a' w' => Fr 11 (fS [3,6] [vU kind,vB z9]) a' ∧ SH M X w [] w') ?_ ?_
 ·replace hm:=hz.symm
  refine s_reg [] [3,6] (fS [3,6] [vU kind,vB (kind == 21)]) [] H6 (by kernel_rfl) trivial fun _ _ H11 hb => ?_
  replace hS:=hS.below hb
  refine w_if H11 rfl (fun hc => ?c14) (fun hc => ?_)
  case c14 =>
   replace hm:=bT hc hm
   apply w_skip
   subst hm
   exact ⟨FrG.keep (ks:=[3,6]) H11 (by kernel_rfl),hS⟩
  replace hm:=bF hc hm
  refine w_reg [] [3,6] (fS [3,6] [vU kind,vB (kind == 2)]) [] H11 (by kernel_rfl) trivial fun _ _ H13 hb => ?_
  replace hS:=hS.below hb
  subst hm
  exact ⟨FrG.keep (ks:=[3,6]) H13 (by kernel_rfl),hS⟩
 ·rintro _ _ ⟨H,hS⟩
  refine w_if H rfl (fun hc => ?c24) (fun hc => ?_)
  case c24 =>
   replace hm:=bT hc hm
   refine s_reg [] [2] [(2,[],vU 22)] [] H (by kernel_rfl) trivial fun _ _ H16 hb => ?_
   replace hS:=hS.below hb
   apply w_ret
   subst hm
   exact retR1 H16 rfl rfl ⟨_,rfl,rfl,(hS.sel [] rfl)⟩
  replace hm:=bF hc hm
  refine s_reg [] [9] [(9,[],vB (kind == 23))] [] H (by kernel_rfl) trivial fun _ _ H18 hb => ?_
  replace hS:=hS.below hb
  refine w_if H18 rfl (fun hc => ?c23) (fun hc => ?_)
  case c23 =>
   replace hm:=bT hc hm
   refine s_reg [] [2] [(2,[],vU 24)] [] H18 (by kernel_rfl) trivial fun _ _ H20 hb => ?_
   replace hS:=hS.below hb
   apply w_ret
   subst hm
   exact retR1 H20 rfl rfl ⟨_,rfl,rfl,(hS.sel [] rfl)⟩
  replace hm:=bF hc hm
  apply w_skip
  refine s_reg [] [2] [(2,[],vU 0)] [] H18 (by kernel_rfl) trivial fun _ _ H22 hb => ?_
  replace hS:=hS.below hb
  apply w_ret
  subst hm
  exact retR1 H22 rfl rfl ⟨_,rfl,rfl,(hS.sel [] rfl)⟩
theorem r04_Closer_ok  (kind : Int) : Ret Tryz.prog 56 ⟨[vU kind]⟩ (vU (r04_Closer kind)):=retP_of (Tryz.call56 _) (fun w h => r04_Closer_w F0   kind _ rfl w h)

def r04_values_S (rec_ : (List TToken) → Int → Int → Int → Option ((List TValue) × Int)) : Prop:=∀ (g_l_ : Gh) (M : Av) (l_ : List TToken) (i : Int) (closer : Int) (left : Int) (r : (List TValue) × Int),rec_ l_ i closer left = some r → ∀ w,S0 M [eI tyToken l_ g_l_] w → Calls Tryz.prog 93 ⟨[vL g_l_ l_,vI i,vU closer,vI left]⟩ w (fun e w' => ∃ v,e = .returned v ∧ ∃ (g901 : Gh),v = vW [vL g901 r.1,vI r.2] ∧ SH M (fpl [eI tyToken l_ g_l_]) w [eO 51 tyValue r.1 g901] w')
theorem r04_values_w (m : Nat) : ∀ (k : Nat),r04_values_S (r04_values_r m  k):=by
 intro k
 induction k with
 | zero => intro g_l_ M l_ i closer left r hm; exact noneE hm
 | succ k ih =>
  intro g_l_ M l_ i closer left r hm w hS
  rw [r04_values_r] at hm
  have hS0 : SH M (fpl [eI tyToken l_ g_l_]) w [eI tyToken l_ g_l_] w:=hS
  generalize hX : fpl [eI tyToken l_ g_l_] = X at hS0 ⊢
  clear hS hX
  have hS:=hS0
  clear hS0
  refine calls_entryP Tryz.func93 rfl Tryz.ntmps93 rfl fun _ H => ?_
  refine s_reg [] [0,1,2,3] (fS [0,1,2,3] [vL g_l_ l_,vI i,vU closer,vI left]) [] H (by kernel_rfl) trivial fun _ _ H2 hb => ?_
  replace hS:=hS.below hb
  refine s_reg [] [0,1,2,3,10] (fS [0,1,2,3,10] [vL g_l_ l_,vI i,vU closer,vI left,vO]) [] H2 (by kernel_rfl) trivial fun _ _ H4 hb => ?_
  replace hS:=hS.below hb
  obtain ⟨z5,hz,hm_z5⟩:=bindE hm
  refine w_cut (fun a' w' => ∃ s_z5 : Int × (List TValue),z5 = Sum.inr s_z5 ∧ ∃ (g74 : Gh),Fr 67 (fS [0,1,10] [vL g_l_ l_,vI s_z5.1,vL g74 s_z5.2]) a' ∧ SH M X w [eO 51 tyValue s_z5.2 g74,eI tyToken l_ g_l_] w') ?_ ?_
  ·replace hm:=hz
   apply w_block
   replace hS : SH M X w [eO 51 tyValue ([] : List TValue) (.nil),eI tyToken l_ g_l_] _:=hS.addNil 51 tyValue
   refine w_loop (fun kk a' w' => ∃ (v7 : Int) (v8 : List TValue) (g9 : Gh),r04_values_L1 m l_ closer left (r04_values_r m k) kk v7 v8 = some _ ∧ Fr 67 (fS [0,2,3,1,10] [vL g_l_ l_,vU closer,vI left,vI v7,vL g9 v8]) a' ∧ SH M X w [eO 51 tyValue v8 g9,eI tyToken l_ g_l_] w') ⟨_,i,([] : List TValue),Gh.nil,hm,FrG.keep (ks:=[0,2,3,1,10]) H4 (by kernel_rfl),hS⟩ ?_
   clear hm H4 hS
   rintro kk _ _ ⟨v7,v8,g9,hm,H,hS⟩
   cases kk with
   | zero => exact noneE hm
   | succ kk =>
    rw [r04_values_L1] at hm
    apply w_seq
    obtain ⟨ho10,hm⟩:=chkE hm
    obtain ⟨x11,hx11,hm⟩:=letE hm
    refine s_reg [(vU ((gi l_ v7).Kind))] [0,1,2,3,10,29] (fS [0,1,2,3,10,29] [vL g_l_ l_,vI v7,vU closer,vI left,vL g9 v8,vB x11]) [fun _ => ((closer == 0) = false ∧ (decide (v7 < (ln l_))) = true ∧ True → oka g_l_.a ∧ 0 ≤ v7 ∧ v7 < ln l_),fun wz => ((closer == 0) = false ∧ (decide (v7 < (ln l_))) = true ∧ True → V.at1 ⟨ab g_l_.a,ao g_l_.a + (v7).toNat * 5,none⟩ (vU ((gi l_ v7).Kind)) wz)] H (by subst hx11; kernel_rfl) ⟨fun hg => (hS.im 1 rfl).oki (ho10 hg.1 hg.2.1),fun hg => (hS.im 1 rfl).at1 (ho10 hg.1 hg.2.1) 0 rfl,trivial⟩ fun _ _ H13 hb => ?_
    replace hS:=hS.below hb
    refine w_if H13 rfl (fun hc => ?_) (fun hc => ?c72)
    case c72 =>
     replace hm:=bF hc hm
     apply w_exit rfl
     obtain rfl:=someE hm
     exact ⟨_,rfl,g9,FrG.keep (ks:=[0,1,10]) H13 (by kernel_rfl),hS⟩
    replace hm:=bT hc hm
    apply w_skip
    apply w_block
    apply w_seq
    apply wl_start
    obtain ⟨ho14,hm⟩:=chkE hm
    refine wl_batch 0 5 [(vG [vU ((gi l_ v7).Kind),vS (gi l_ v7).Text,vI ((gi l_ v7).Num),vS (gi l_ v7).Unit,vB ((gi l_ v7).Flag)])] [0,1,2,3,10,34] (fS [0,1,2,3,10,34] [vL g_l_ l_,vI v7,vU closer,vI left,vL g9 v8,vG [vU ((gi l_ v7).Kind),vS (gi l_ v7).Text,vI ((gi l_ v7).Num),vS (gi l_ v7).Unit,vB ((gi l_ v7).Flag),vO]]) [fun _ => oka g_l_.a ∧ 0 ≤ v7 ∧ v7 < ln l_,fun wz => V.atN (ab g_l_.a) (ao g_l_.a + (v7).toNat * 5) [vU ((gi l_ v7).Kind),vS (gi l_ v7).Text,vI ((gi l_ v7).Num),vS (gi l_ v7).Unit,vB ((gi l_ v7).Flag)] 0 wz] H13 (by decide) (by kernel_rfl) ⟨((hS.im 1 rfl).oki ho14),((hS.im 1 rfl).atA ho14 0 rfl),trivial⟩ fun _ _ H16 hb => ?_
    replace hS:=hS.below hb
    have hd:=hS.hand [] [0,1] rfl rfl
    refine m_stp [11,0,1,2,3,10,34] (fS [0,1,2,3,10,34] [vL g_l_ l_,vI v7,vU closer,vI left,vL g9 v8,vG [vU ((gi l_ v7).Kind),vS (gi l_ v7).Text,vI ((gi l_ v7).Num),vS (gi l_ v7).Unit,vB ((gi l_ v7).Flag),vO]]) H16 rfl rfl rfl rfl (o_alloc [vU 0,vN,vI 0,vN,vF,vO] (z:=vG [vU 0,vN,vI 0,vN,vF,vO]) hd (by kernel_rfl) rfl) (fun _ => rfl) fun _ _ v H19 hq => ?_
    obtain ⟨b17,rfl,hq⟩:=hq
    replace hS : SH M X w [eB b17 [vU 0,vN,vI 0,vN,vF,vO],eO 51 tyValue v8 g9,eI tyToken l_ g_l_] _:=hS.join [] [0,1] rfl rfl hq
    have hd:=hS.hand [0] [1,2] rfl rfl
    refine m_stp0 [0,1,2,3,10,11] (fS [0,1,2,3,10,11] [vL g_l_ l_,vI v7,vU closer,vI left,vL g9 v8,vP b17]) H19 rfl rfl rfl (o_store [vU ((gi l_ v7).Kind),vS (gi l_ v7).Text,vI ((gi l_ v7).Num),vS (gi l_ v7).Unit,vB ((gi l_ v7).Flag),vO] H19 hd rfl rfl (by kernel_rfl) rfl rfl rfl) rfl fun _ _ H21 hq => ?_
    obtain ⟨_,hq⟩:=hq
    replace hS : SH M X w [eB b17 [vU ((gi l_ v7).Kind),vS (gi l_ v7).Text,vI ((gi l_ v7).Num),vS (gi l_ v7).Unit,vB ((gi l_ v7).Flag),vO],eO 51 tyValue v8 g9,eI tyToken l_ g_l_] _:=hS.join [0] [1,2] rfl rfl hq
    apply wl_end rfl
    refine s_reg [] [0,1,2,3,10,11] (fS [0,1,2,3,10,11] [vL g_l_ l_,vI (w64 (v7 + 1)),vU closer,vI left,vL g9 v8,vP b17]) [] H21 (by kernel_rfl) trivial fun _ _ H23 hb => ?_
    replace hS:=hS.below hb
    obtain ⟨z24,hz,hm_z24⟩:=bindE hm
    refine w_cut (fun a' w' => ∃ s_z24 : Int × (List TValue),z24 = Sum.inr s_z24 ∧ ∃ (g56 : Gh),Fr 67 (fS [0,2,3,10,11,1] [vL g_l_ l_,vU closer,vI left,vL g9 v8,vP b17,vI s_z24.1]) a' ∧ SH M X w [eO 51 tyValue s_z24.2 g56,eB b17 [vU ((gi l_ v7).Kind),vS (gi l_ v7).Text,vI ((gi l_ v7).Num),vS (gi l_ v7).Unit,vB ((gi l_ v7).Flag),vL g56 s_z24.2],eO 51 tyValue v8 g9,eI tyToken l_ g_l_] w') ?_ ?_
    ·replace hm:=hz
     refine s_reg [(vU ((gi l_ v7).Kind)),(vU (r04_Closer ((gi l_ v7).Kind)))] [0,1,2,3,10,11,12] (fS [0,1,2,3,10,11,12] [vL g_l_ l_,vI (w64 (v7 + 1)),vU closer,vI left,vL g9 v8,vP b17,vU (r04_Closer ((gi l_ v7).Kind))]) [rA b17 0 (vU ((gi l_ v7).Kind)),rB 56 [vU ((gi l_ v7).Kind)] (vU (r04_Closer ((gi l_ v7).Kind)))] H23 (by kernel_rfl) ⟨((hS.bk 0 rfl).at1 rfl),((r04_Closer_ok _).b),trivial⟩ fun _ _ H26 hb => ?_
     replace hS:=hS.below hb
     refine s_reg [] [0,1,2,3,10,11,12,42] (fS [0,1,2,3,10,11,12,42] [vL g_l_ l_,vI (w64 (v7 + 1)),vU closer,vI left,vL g9 v8,vP b17,vU (r04_Closer ((gi l_ v7).Kind)),vB ((r04_Closer ((gi l_ v7).Kind)) != 0)]) [] H26 (by kernel_rfl) trivial fun _ _ H28 hb => ?_
     replace hS:=hS.below hb
     refine w_if H28 rfl (fun hc => ?_) (fun hc => ?c55)
     case c55 =>
      replace hm:=bF hc hm
      apply w_skip
      obtain rfl:=someE hm
      replace hS : SH M X w [eO 51 tyValue ([] : List TValue) (.nil),eB b17 [vU ((gi l_ v7).Kind),vS (gi l_ v7).Text,vI ((gi l_ v7).Num),vS (gi l_ v7).Unit,vB ((gi l_ v7).Flag),vO],eO 51 tyValue v8 g9,eI tyToken l_ g_l_] _:=hS.addNil 51 tyValue
      exact ⟨_,rfl,Gh.nil,FrG.keep (ks:=[0,2,3,10,11,1]) H28 (by kernel_rfl),hS⟩
     replace hm:=bT hc hm
     apply w_seq
     refine s_reg [] [0,1,2,3,10,11,12,44] (fS [0,1,2,3,10,11,12,44] [vL g_l_ l_,vI (w64 (v7 + 1)),vU closer,vI left,vL g9 v8,vP b17,vU (r04_Closer ((gi l_ v7).Kind)),vB (left == 0)]) [] H28 (by kernel_rfl) trivial fun _ _ H30 hb => ?_
     replace hS:=hS.below hb
     refine w_if H30 rfl (fun hc => ?c53) (fun hc => ?_)
     case c53 =>
      replace hm:=bT hc hm
      refine s_reg [] [8,9] (fS [8,9] [vO,vI (-1)]) [] H30 (by kernel_rfl) trivial fun _ _ H32 hb => ?_
      replace hS:=hS.below hb
      apply w_ret
      obtain rfl:=someE hm
      have hm:=hm_z24
      obtain rfl:=someE hm
      have hm:=hm_z5
      obtain rfl:=someE hm
      replace hS : SH M X w [eO 51 tyValue ([] : List TValue) (.nil),eB b17 [vU ((gi l_ v7).Kind),vS (gi l_ v7).Text,vI ((gi l_ v7).Num),vS (gi l_ v7).Unit,vB ((gi l_ v7).Flag),vO],eO 51 tyValue v8 g9,eI tyToken l_ g_l_] _:=hS.addNil 51 tyValue
      exact retR2 H32 rfl rfl rfl ⟨_,rfl,Gh.nil,rfl,(hS.sel [0] rfl)⟩
     replace hm:=bF hc hm
     apply w_skip
     apply w_seq
     apply wl_start
     refine wl_batch 0 5 [] [0,2,3,10,11,46,47,48,50] (fS [0,2,3,10,11,46,47,48,50] [vL g_l_ l_,vU closer,vI left,vL g9 v8,vP b17,vL g_l_ l_,vI (w64 (v7 + 1)),vU (r04_Closer ((gi l_ v7).Kind)),vI (w64 (left - 1))]) [] H30 (by decide) (by kernel_rfl) trivial fun _ _ H35 hb => ?_
     replace hS:=hS.below hb
     obtain ⟨y36,hy36,hm⟩:=bindE hm
     have hd:=hS.hand [2] [0,1,2] rfl rfl
     refine m_stp [51,0,2,3,10,11] (fS [0,2,3,10,11] [vL g_l_ l_,vU closer,vI left,vL g9 v8,vP b17]) H35 rfl rfl rfl rfl (o_callx H35 rfl rfl (⟨Tryz.call93 _,ih (g_l_) _ _ _ _ _ _ hy36 _ hd⟩ : DoesX _ _ _ _ _)) (fun _ => rfl) fun _ _ v H40 hq => ?_
     obtain ⟨g37,rfl,hq⟩:=hq
     replace hS : SH M X w [eO 51 tyValue y36.1 g37,eB b17 [vU ((gi l_ v7).Kind),vS (gi l_ v7).Text,vI ((gi l_ v7).Num),vS (gi l_ v7).Unit,vB ((gi l_ v7).Flag),vO],eO 51 tyValue v8 g9,eI tyToken l_ g_l_] _:=hS.join [2] [0,1,2] rfl rfl hq
     refine wl_batch 6 10 [] [0,2,3,10,11,52,53,54] (fS [0,2,3,10,11,52,53,54] [vL g_l_ l_,vU closer,vI left,vL g9 v8,vP b17,vL g37 y36.1,vI y36.2,vA b17 5]) [] H40 (by decide) (by kernel_rfl) trivial fun _ _ H42 hb => ?_
     replace hS:=hS.below hb
     have hd:=hS.hand [1] [0,2,3] rfl rfl
     refine m_stp0 [0,2,3,10,11,53] (fS [0,2,3,10,11,53] [vL g_l_ l_,vU closer,vI left,vL g9 v8,vP b17,vI y36.2]) H42 rfl rfl rfl (o_store [vU ((gi l_ v7).Kind),vS (gi l_ v7).Text,vI ((gi l_ v7).Num),vS (gi l_ v7).Unit,vB ((gi l_ v7).Flag),vL g37 y36.1] H42 hd rfl rfl (by kernel_rfl) rfl rfl rfl) rfl fun _ _ H44 hq => ?_
     obtain ⟨_,hq⟩:=hq
     replace hS : SH M X w [eB b17 [vU ((gi l_ v7).Kind),vS (gi l_ v7).Text,vI ((gi l_ v7).Num),vS (gi l_ v7).Unit,vB ((gi l_ v7).Flag),vL g37 y36.1],eO 51 tyValue y36.1 g37,eO 51 tyValue v8 g9,eI tyToken l_ g_l_] _:=hS.join [1] [0,2,3] rfl rfl hq
     refine wl_batch 11 12 [] [0,1,2,3,10,11] (fS [0,1,2,3,10,11] [vL g_l_ l_,vI y36.2,vU closer,vI left,vL g9 v8,vP b17]) [] H44 (by decide) (by kernel_rfl) trivial fun _ _ H46 hb => ?_
     replace hS:=hS.below hb
     apply wl_end rfl
     refine s_reg [] [0,1,2,3,10,11,56] (fS [0,1,2,3,10,11,56] [vL g_l_ l_,vI y36.2,vU closer,vI left,vL g9 v8,vP b17,vB (decide (y36.2 < 0))]) [] H46 (by kernel_rfl) trivial fun _ _ H48 hb => ?_
     replace hS:=hS.below hb
     refine w_if H48 rfl (fun hc => ?_) (fun hc => ?c52)
     case c52 =>
      replace hm:=bF hc hm
      apply w_skip
      obtain rfl:=someE hm
      replace hS : SH M X w [eO 51 tyValue y36.1 g37,eB b17 [vU ((gi l_ v7).Kind),vS (gi l_ v7).Text,vI ((gi l_ v7).Num),vS (gi l_ v7).Unit,vB ((gi l_ v7).Flag),vL g37 y36.1],eO 51 tyValue v8 g9,eI tyToken l_ g_l_] _:=hS.sel [1,0,2,3] rfl
      exact ⟨_,rfl,g37,FrG.keep (ks:=[0,2,3,10,11,1]) H48 (by kernel_rfl),hS⟩
     replace hm:=bT hc hm
     refine s_reg [] [8,9] (fS [8,9] [vO,vI (-1)]) [] H48 (by kernel_rfl) trivial fun _ _ H50 hb => ?_
     replace hS:=hS.below hb
     replace hS : SH M X w [eB b17 [vU ((gi l_ v7).Kind),vS (gi l_ v7).Text,vI ((gi l_ v7).Num),vS (gi l_ v7).Unit,vB ((gi l_ v7).Flag),vL g37 y36.1],eO 51 tyValue v8 g9,eI tyToken l_ g_l_] _:=hS.sel [0,2,3] rfl
     apply w_ret
     obtain rfl:=someE hm
     have hm:=hm_z24
     obtain rfl:=someE hm
     have hm:=hm_z5
     obtain rfl:=someE hm
     replace hS : SH M X w [eO 51 tyValue ([] : List TValue) (.nil),eB b17 [vU ((gi l_ v7).Kind),vS (gi l_ v7).Text,vI ((gi l_ v7).Num),vS (gi l_ v7).Unit,vB ((gi l_ v7).Flag),vL g37 y36.1],eO 51 tyValue v8 g9,eI tyToken l_ g_l_] _:=hS.addNil 51 tyValue
     exact retR2 H50 rfl rfl rfl ⟨_,rfl,Gh.nil,rfl,(hS.sel [0] rfl)⟩
    ·rintro _ _ ⟨s_z24,hz,g56,H,hS⟩
     subst hz
     replace hm:=sumR hm_z24
     apply wl_start
     refine wl_batch 0 2 [(vG [vU ((gi l_ v7).Kind),vS (gi l_ v7).Text,vI ((gi l_ v7).Num),vS (gi l_ v7).Unit,vB ((gi l_ v7).Flag),vL g56 s_z24.2])] [0,1,2,3,57,58] (fS [0,1,2,3,57,58] [vL g_l_ l_,vI s_z24.1,vU closer,vI left,vL g9 v8,vG [vU ((gi l_ v7).Kind),vS (gi l_ v7).Text,vI ((gi l_ v7).Num),vS (gi l_ v7).Unit,vB ((gi l_ v7).Flag),vL g56 s_z24.2]]) [rN b17 0 [vU ((gi l_ v7).Kind),vS (gi l_ v7).Text,vI ((gi l_ v7).Num),vS (gi l_ v7).Unit,vB ((gi l_ v7).Flag),vL g56 s_z24.2]] H (by decide) (by kernel_rfl) ⟨((hS.bk 1 rfl).atD rfl),trivial⟩ fun _ _ H59 hb => ?_
     replace hS:=hS.below hb
     replace hS : SH M X w [eI tyValue s_z24.2 g56,eB b17 [vU ((gi l_ v7).Kind),vS (gi l_ v7).Text,vI ((gi l_ v7).Num),vS (gi l_ v7).Unit,vB ((gi l_ v7).Flag),vL g56 s_z24.2],eO 51 tyValue v8 g9,eI tyToken l_ g_l_] _:=SH.frz1 (hS.sel [0,1,2,3] rfl)
     have hd:=hS.hand [0] [0,1,2,3] rfl rfl
     refine m_stp [59,0,1,2,3,57] (fS [0,1,2,3,57] [vL g_l_ l_,vI s_z24.1,vU closer,vI left,vL g9 v8]) H59 rfl rfl rfl rfl (o_lit (T:=tyValue) (E:=51) (zv:=vG [vU 0,vN,vI 0,vN,vF,vO]) [vU ((gi l_ v7).Kind),vS (gi l_ v7).Text,vI ((gi l_ v7).Num),vS (gi l_ v7).Unit,vB ((gi l_ v7).Flag),vL g56 s_z24.2] ([(TValue.mk (gi l_ v7) s_z24.2)] : List TValue) [gL [g56]] _ H59 hd rfl (by kernel_rfl) (by kernel_rfl) (by kernel_rfl) (by kernel_rfl) (by kernel_rfl) (by kernel_rfl) (by kernel_rfl) rfl (InnL.cons (tyValue_mk (hd.im 0 rfl)) InnL.nil)) (fun _ => rfl) fun _ _ v H63 hq => ?_
     obtain ⟨g60,rfl,hq⟩:=hq
     replace hS : SH M X w [eO 51 tyValue ([(TValue.mk (gi l_ v7) s_z24.2)] : List TValue) g60,eI tyValue s_z24.2 g56,eB b17 [vU ((gi l_ v7).Kind),vS (gi l_ v7).Text,vI ((gi l_ v7).Num),vS (gi l_ v7).Unit,vB ((gi l_ v7).Flag),vL g56 s_z24.2],eO 51 tyValue v8 g9,eI tyToken l_ g_l_] _:=hS.join [0] [0,1,2,3] rfl rfl hq
     obtain ⟨ho64,hm⟩:=chkE hm
     obtain ⟨q65,hq65,hm⟩:=letE hm
     have hd:=hS.hand [3,0] [1,2,4] rfl rfl
     refine m_stp [60,0,1,2,3] (fS [0,1,2,3] [vL g_l_ l_,vI s_z24.1,vU closer,vI left]) H63 rfl rfl rfl rfl (o_app2 (T:=tyValue) (zv:=vG [vU 0,vN,vI 0,vN,vF,vO]) (g1:=g9) (g2:=g60) (l1:=v8) (l2:=([(TValue.mk (gi l_ v7) s_z24.2)] : List TValue)) q65 hq65.symm H63 hd rfl rfl rfl rfl rfl rfl rfl (by kernel_rfl) (by kernel_rfl) rfl rfl ho64) (fun _ => rfl) fun _ _ v H67 hq => ?_
     obtain ⟨g68,rfl,hq⟩:=hq
     replace hS : SH M X w [eO 51 tyValue q65 g68,eO 51 tyValue ([(TValue.mk (gi l_ v7) s_z24.2)] : List TValue) g60,eI tyValue s_z24.2 g56,eB b17 [vU ((gi l_ v7).Kind),vS (gi l_ v7).Text,vI ((gi l_ v7).Num),vS (gi l_ v7).Unit,vB ((gi l_ v7).Flag),vL g56 s_z24.2],eI tyToken l_ g_l_] _:=hS.join [3,0] [1,2,4] rfl rfl hq
     refine wl_batch 4 5 [] [0,1,2,3,10] (fS [0,1,2,3,10] [vL g_l_ l_,vI s_z24.1,vU closer,vI left,vL g68 q65]) [] H67 (by decide) (by kernel_rfl) trivial fun _ _ H70 hb => ?_
     replace hS:=hS.below hb
     apply wl_end rfl
     replace hS : SH M X w [eO 51 tyValue q65 g68,eI tyToken l_ g_l_] _:=hS.sel [0,4] rfl
     exact ⟨_,Nat.lt_succ_self _,s_z24.1,q65,g68,hm,FrG.keep (ks:=[0,2,3,1,10]) H70 (by kernel_rfl),hS⟩
  ·rintro _ _ ⟨s_z5,hz,g74,H,hS⟩
   subst hz
   replace hm:=sumR hm_z5
   obtain ⟨x76,hx76,hm⟩:=letE hm
   refine s_reg [] [8,9] (fS [8,9] [vL g74 s_z5.2,vI x76]) [] H (by subst hx76; kernel_rfl) trivial fun _ _ H78 hb => ?_
   replace hS:=hS.below hb
   replace hS : SH M X w [eO 51 tyValue s_z5.2 g74] _:=hS.sel [0] rfl
   apply w_ret
   obtain rfl:=someE hm
   exact retR2 H78 rfl rfl rfl ⟨_,rfl,g74,rfl,(hS.sel [0] rfl)⟩
theorem r04_values_ok {g_l_ : Gh} (m : Nat) (l_ : List TToken) (i : Int) (closer : Int) (left : Int) (r : (List TValue) × Int) (hm : r04_values m l_ i closer left = some r) (M : Av) (w : World) (hS : S0 M [eI tyToken l_ g_l_] w) : DoesX Tryz.prog 93 ⟨[vL g_l_ l_,vI i,vU closer,vI left]⟩ w (fun v w' => ∃ (g901 : Gh),v = vW [vL g901 r.1,vI r.2] ∧ SH M (fpl [eI tyToken l_ g_l_]) w [eO 51 tyValue r.1 g901] w'):=⟨Tryz.call93 _,r04_values_w m   m g_l_ M l_ i closer left r hm w hS⟩

theorem r04_Parsed_w {g_l_ : Gh} (M : Av) (m : Nat) (l_ : List TToken) (r : (List TValue) × Bool) (hm : r04_Parsed m l_ = some r) (w : World) (hS : S0 M [eI tyToken l_ g_l_] w) : Calls Tryz.prog 74 ⟨[vL g_l_ l_]⟩ w (fun e w' => ∃ v,e = .returned v ∧ ∃ (g901 : Gh),v = vW [vL g901 r.1,vB r.2] ∧ SH M (fpl [eI tyToken l_ g_l_]) w [eO 51 tyValue r.1 g901] w'):=by
 rw [r04_Parsed] at hm
 have hS0 : SH M (fpl [eI tyToken l_ g_l_]) w [eI tyToken l_ g_l_] w:=hS
 generalize hX : fpl [eI tyToken l_ g_l_] = X at hS0 ⊢
 clear hS hX
 have hS:=hS0
 clear hS0
 refine calls_entryP Tryz.func74 rfl Tryz.ntmps74 rfl fun _ H => ?_
 refine s_reg [] [0] [(0,[],vL g_l_ l_)] [] H (by kernel_rfl) trivial fun _ _ H2 hb => ?_
 replace hS:=hS.below hb
 apply w_seq
 apply wl_start
 refine wl_batch 0 1 [] [7] [(7,[],vL g_l_ l_)] [] H2 (by decide) (by kernel_rfl) trivial fun _ _ H4 hb => ?_
 replace hS:=hS.below hb
 obtain ⟨y5,hy5,hm⟩:=bindE hm
 have hd:=hS.hand [0] [0] rfl rfl
 refine m_stp [8] [] H4 rfl rfl rfl rfl (o_callx H4 rfl rfl (r04_values_ok (g_l_:=g_l_) m _ _ _ _ _ hy5 _ _ hd)) (fun _ => rfl) fun _ _ v H9 hq => ?_
 obtain ⟨g6,rfl,hq⟩:=hq
 replace hS : SH M X w [eO 51 tyValue y5.1 g6,eI tyToken l_ g_l_] _:=hS.join [0] [0] rfl rfl hq
 refine wl_batch 2 7 [] [4,5] (fS [4,5] [vL g6 y5.1,vI y5.2]) [] H9 (by decide) (by kernel_rfl) trivial fun _ _ H11 hb => ?_
 replace hS:=hS.below hb
 apply wl_end rfl
 replace hS : SH M X w [eO 51 tyValue y5.1 g6] _:=hS.sel [0] rfl
 refine s_reg [] [2,3] (fS [2,3] [vL g6 y5.1,vB (decide (0 ≤ y5.2))]) [] H11 (by kernel_rfl) trivial fun _ _ H13 hb => ?_
 replace hS:=hS.below hb
 apply w_ret
 obtain rfl:=someE hm
 exact retR2 H13 rfl rfl rfl ⟨_,rfl,g6,rfl,(hS.sel [0] rfl)⟩
theorem r04_Parsed_ok {g_l_ : Gh} (m : Nat) (l_ : List TToken) (r : (List TValue) × Bool) (hm : r04_Parsed m l_ = some r) (M : Av) (w : World) (hS : S0 M [eI tyToken l_ g_l_] w) : DoesX Tryz.prog 74 ⟨[vL g_l_ l_]⟩ w (fun v w' => ∃ (g901 : Gh),v = vW [vL g901 r.1,vB r.2] ∧ SH M (fpl [eI tyToken l_ g_l_]) w [eO 51 tyValue r.1 g901] w'):=⟨Tryz.call74 _,r04_Parsed_w M m   l_ r hm w hS⟩

def r04_Tokens_S (rec_ : (List TValue) → Option (List TToken)) : Prop:=∀ (g_v_ : Gh) (M : Av) (v_ : List TValue) (r : List TToken),rec_ v_ = some r → ∀ w,S0 M [eI tyValue v_ g_v_] w → Calls Tryz.prog 62 ⟨[vL g_v_ v_]⟩ w (fun e w' => ∃ v,e = .returned v ∧ ∃ (g901 : Gh),v = vL g901 r ∧ SH M (fpl [eI tyValue v_ g_v_]) w [eO 49 tyToken r g901] w')
theorem r04_Tokens_w (m : Nat) : ∀ (k : Nat),r04_Tokens_S (r04_Tokens_r m  k):=by
 intro k
 induction k with
 | zero => intro g_v_ M v_ r hm; exact noneE hm
 | succ k ih =>
  intro g_v_ M v_ r hm w hS
  rw [r04_Tokens_r] at hm
  have hS0 : SH M (fpl [eI tyValue v_ g_v_]) w [eI tyValue v_ g_v_] w:=hS
  generalize hX : fpl [eI tyValue v_ g_v_] = X at hS0 ⊢
  clear hS hX
  have hS:=hS0
  clear hS0
  refine calls_entryP Tryz.func62 rfl Tryz.ntmps62 rfl fun _ H => ?_
  refine s_reg [] [0] [(0,[],vL g_v_ v_)] [] H (by kernel_rfl) trivial fun _ _ H2 hb => ?_
  replace hS:=hS.below hb
  refine s_reg [] [0,3] (fS [0,3] [vL g_v_ v_,vO]) [] H2 (by kernel_rfl) trivial fun _ _ H4 hb => ?_
  replace hS:=hS.below hb
  obtain ⟨z5,hz,hm⟩:=bindE hm
  refine w_cut (fun a' w' => ∃ (g69 : Gh),Fr 43 [(3,[],vL g69 z5)] a' ∧ SH M X w [eO 49 tyToken z5 g69,eI tyValue v_ g_v_] w') ?_ ?_
  ·replace hm:=hz
   refine s_reg [] [0,3,4] (fS [0,3,4] [vL g_v_ v_,vO,vI 0]) [] H4 (by kernel_rfl) trivial fun _ _ H7 hb => ?_
   replace hS:=hS.below hb
   apply w_block
   replace hS : SH M X w [eO 49 tyToken ([] : List TToken) (.nil),eI tyValue v_ g_v_] _:=hS.addNil 49 tyToken
   refine w_loop (fun kk a' w' => ∃ (v9 : List TToken) (v11 : Int) (g10 : Gh),r04_Tokens_L1 m v_ (r04_Tokens_r m k) kk v9 v11 = some _ ∧ Fr 43 (fS [0,3,4] [vL g_v_ v_,vL g10 v9,vI v11]) a' ∧ SH M X w [eO 49 tyToken v9 g10,eI tyValue v_ g_v_] w') ⟨_,([] : List TToken),0,Gh.nil,hm,FrG.keep (ks:=[0,3,4]) H7 (by kernel_rfl),hS⟩ ?_
   clear hm H7 hS
   rintro kk _ _ ⟨v9,v11,g10,hm,H,hS⟩
   cases kk with
   | zero => exact noneE hm
   | succ kk =>
    rw [r04_Tokens_L1] at hm
    apply w_seq
    refine s_reg [] [0,3,4,9] (fS [0,3,4,9] [vL g_v_ v_,vL g10 v9,vI v11,vB (decide (v11 < (ln v_)))]) [] H (by kernel_rfl) trivial fun _ _ H13 hb => ?_
    replace hS:=hS.below hb
    refine w_if H13 rfl (fun hc => ?_) (fun hc => ?c67)
    case c67 =>
     replace hm:=bF hc hm
     apply w_exit rfl
     obtain rfl:=someE hm
     exact ⟨g10,FrG.keep (ks:=[3]) H13 (by kernel_rfl),hS⟩
    replace hm:=bT hc hm
    apply w_skip
    obtain ⟨z14,hz,hm⟩:=bindE hm
    refine w_cut (fun a' w' => ∃ (g63 : Gh),Fr 43 (fS [0,4,3] [vL g_v_ v_,vI v11,vL g63 z14]) a' ∧ SH M X w [eO 49 tyToken z14 g63,eI tyValue v_ g_v_] w') ?_ ?_
    ·replace hm:=hz
     apply w_block
     apply w_seq
     apply wl_start
     obtain ⟨ho15,hm⟩:=chkE hm
     refine wl_batch 0 6 [(vG [vU ((gi v_ v11).Token.Kind),vS (gi v_ v11).Token.Text,vI ((gi v_ v11).Token.Num),vS (gi v_ v11).Token.Unit,vB ((gi v_ v11).Token.Flag)])] [0,4,12,17] (fS [0,4,12,17] [vL g_v_ v_,vI v11,vL g10 v9,vG [vU ((gi v_ v11).Token.Kind),vS (gi v_ v11).Token.Text,vI ((gi v_ v11).Token.Num),vS (gi v_ v11).Token.Unit,vB ((gi v_ v11).Token.Flag)]]) [fun _ => oka g_v_.a ∧ 0 ≤ v11 ∧ v11 < ln v_,fun wz => V.atN (ab g_v_.a) (ao g_v_.a + (v11).toNat * 6) [vU ((gi v_ v11).Token.Kind),vS (gi v_ v11).Token.Text,vI ((gi v_ v11).Token.Num),vS (gi v_ v11).Token.Unit,vB ((gi v_ v11).Token.Flag)] 0 wz] H13 (by decide) (by kernel_rfl) ⟨((hS.im 1 rfl).oki ho15),((hS.im 1 rfl).atA ho15 0 rfl),trivial⟩ fun _ _ H17 hb => ?_
     replace hS:=hS.below hb
     have hd:=hS.hand [] [0,1] rfl rfl
     refine m_stp [18,0,4,12] (fS [0,4,12] [vL g_v_ v_,vI v11,vL g10 v9]) H17 rfl rfl rfl rfl (o_lit (T:=tyToken) (E:=49) (zv:=vG [vU 0,vN,vI 0,vN,vF]) [vU ((gi v_ v11).Token.Kind),vS (gi v_ v11).Token.Text,vI ((gi v_ v11).Token.Num),vS (gi v_ v11).Token.Unit,vB ((gi v_ v11).Token.Flag)] ([(gi v_ v11).Token] : List TToken) [gL []] _ H17 hd rfl (by kernel_rfl) (by kernel_rfl) (by kernel_rfl) (by kernel_rfl) (by kernel_rfl) (by kernel_rfl) (by kernel_rfl) rfl (InnL.cons trivial InnL.nil)) (fun _ => rfl) fun _ _ v H21 hq => ?_
     obtain ⟨g18,rfl,hq⟩:=hq
     replace hS : SH M X w [eO 49 tyToken ([(gi v_ v11).Token] : List TToken) g18,eO 49 tyToken v9 g10,eI tyValue v_ g_v_] _:=hS.join [] [0,1] rfl rfl hq
     obtain ⟨ho22,hm⟩:=chkE hm
     obtain ⟨q23,hq23,hm⟩:=letE hm
     have hd:=hS.hand [1,0] [2] rfl rfl
     refine m_stp [19,0,4] (fS [0,4] [vL g_v_ v_,vI v11]) H21 rfl rfl rfl rfl (o_app2 (T:=tyToken) (zv:=vG [vU 0,vN,vI 0,vN,vF]) (g1:=g10) (g2:=g18) (l1:=v9) (l2:=([(gi v_ v11).Token] : List TToken)) q23 hq23.symm H21 hd rfl rfl rfl rfl rfl rfl rfl (by kernel_rfl) (by kernel_rfl) rfl rfl ho22) (fun _ => rfl) fun _ _ v H25 hq => ?_
     obtain ⟨g26,rfl,hq⟩:=hq
     replace hS : SH M X w [eO 49 tyToken q23 g26,eO 49 tyToken ([(gi v_ v11).Token] : List TToken) g18,eI tyValue v_ g_v_] _:=hS.join [1,0] [2] rfl rfl hq
     refine wl_batch 8 9 [] [0,3,4] (fS [0,3,4] [vL g_v_ v_,vL g26 q23,vI v11]) [] H25 (by decide) (by kernel_rfl) trivial fun _ _ H28 hb => ?_
     replace hS:=hS.below hb
     apply wl_end rfl
     replace hS : SH M X w [eO 49 tyToken q23 g26,eI tyValue v_ g_v_] _:=hS.sel [0,2] rfl
     refine s_reg [(vU ((gi v_ v11).Token.Kind)),(vU (r04_Closer ((gi v_ v11).Token.Kind)))] [0,3,4,5] (fS [0,3,4,5] [vL g_v_ v_,vL g26 q23,vI v11,vU (r04_Closer ((gi v_ v11).Token.Kind))]) [fun _ => oka g_v_.a ∧ 0 ≤ v11 ∧ v11 < ln v_,fun wz => V.at1 ⟨ab g_v_.a,ao g_v_.a + (v11).toNat * 6,none⟩ (vU ((gi v_ v11).Token.Kind)) wz,rB 56 [vU ((gi v_ v11).Token.Kind)] (vU (r04_Closer ((gi v_ v11).Token.Kind)))] H28 (by kernel_rfl) ⟨((hS.im 1 rfl).oki ho15),((hS.im 1 rfl).at1 ho15 0 rfl),((r04_Closer_ok _).b),trivial⟩ fun _ _ H30 hb => ?_
     replace hS:=hS.below hb
     obtain ⟨x31,hx31,hm⟩:=letE hm
     refine s_reg [] [0,3,4,5,28] (fS [0,3,4,5,28] [vL g_v_ v_,vL g26 q23,vI v11,vU (r04_Closer ((gi v_ v11).Token.Kind)),vB x31]) [] H30 (by subst hx31; kernel_rfl) trivial fun _ _ H33 hb => ?_
     replace hS:=hS.below hb
     refine w_if H33 rfl (fun hc => ?_) (fun hc => ?c62)
     case c62 =>
      replace hm:=bF hc hm
      apply w_skip
      obtain rfl:=someE hm
      exact ⟨g26,FrG.keep (ks:=[0,4,3]) H33 (by kernel_rfl),hS⟩
     replace hm:=bT hc hm
     apply w_seq
     apply wl_start
     refine wl_batch 0 6 [(.slice (g_v_.s (v11).toNat 0).a (((gi v_ v11).List_).length) (g_v_.s (v11).toNat 0).c)] [0,4,5,29,34] (fS [0,4,5,29,34] [vL g_v_ v_,vI v11,vU (r04_Closer ((gi v_ v11).Token.Kind)),vL g26 q23,.slice (g_v_.s (v11).toNat 0).a (((gi v_ v11).List_).length) (g_v_.s (v11).toNat 0).c]) [fun _ => oka g_v_.a ∧ 0 ≤ v11 ∧ v11 < ln v_,fun wz => V.at1 ⟨ab g_v_.a,ao g_v_.a + (v11).toNat * 6 + 5,none⟩ (.slice (g_v_.s (v11).toNat 0).a (((gi v_ v11).List_).length) (g_v_.s (v11).toNat 0).c) wz] H33 (by decide) (by kernel_rfl) ⟨((hS.im 1 rfl).oki ho15),((hS.im 1 rfl).at1 ho15 5 rfl),trivial⟩ fun _ _ H35 hb => ?_
     replace hS:=hS.below hb
     replace hS : SH M X w [eI tyValue ((gi v_ v11).List_) (g_v_.s (v11).toNat 0),eO 49 tyToken q23 g26,eI tyValue v_ g_v_] _:=hS.addIm (tyValue_i0 ((hS.im 1 rfl).el ho15))
     obtain ⟨y37,hy37,hm⟩:=bindE hm
     have hd:=hS.hand [0] [0,1,2] rfl rfl
     refine m_stp [35,0,4,5,29] (fS [0,4,5,29] [vL g_v_ v_,vI v11,vU (r04_Closer ((gi v_ v11).Token.Kind)),vL g26 q23]) H35 rfl rfl rfl rfl (o_callx H35 rfl rfl (⟨Tryz.call62 _,ih ((g_v_.s (v11).toNat 0)) _ _ _ hy37 _ hd⟩ : DoesX _ _ _ _ _)) (fun _ => rfl) fun _ _ v H41 hq => ?_
     obtain ⟨g38,rfl,hq⟩:=hq
     replace hS : SH M X w [eO 49 tyToken y37 g38,eI tyValue ((gi v_ v11).List_) (g_v_.s (v11).toNat 0),eO 49 tyToken q23 g26,eI tyValue v_ g_v_] _:=hS.join [0] [0,1,2] rfl rfl hq
     obtain ⟨ho42,hm⟩:=chkE hm
     obtain ⟨q43,hq43,hm⟩:=letE hm
     have hd:=hS.hand [2,0] [1,3] rfl rfl
     refine m_stp [36,0,4,5] (fS [0,4,5] [vL g_v_ v_,vI v11,vU (r04_Closer ((gi v_ v11).Token.Kind))]) H41 rfl rfl rfl rfl (o_app2 (T:=tyToken) (zv:=vG [vU 0,vN,vI 0,vN,vF]) (g1:=g26) (g2:=g38) (l1:=q23) (l2:=y37) q43 hq43.symm H41 hd rfl rfl rfl rfl rfl rfl rfl (by kernel_rfl) (by kernel_rfl) rfl rfl ho42) (fun _ => rfl) fun _ _ v H45 hq => ?_
     obtain ⟨g46,rfl,hq⟩:=hq
     replace hS : SH M X w [eO 49 tyToken q43 g46,eO 49 tyToken y37 g38,eI tyValue ((gi v_ v11).List_) (g_v_.s (v11).toNat 0),eI tyValue v_ g_v_] _:=hS.join [2,0] [1,3] rfl rfl hq
     refine wl_batch 8 9 [] [0,3,4,5] (fS [0,3,4,5] [vL g_v_ v_,vL g46 q43,vI v11,vU (r04_Closer ((gi v_ v11).Token.Kind))]) [] H45 (by decide) (by kernel_rfl) trivial fun _ _ H48 hb => ?_
     replace hS:=hS.below hb
     apply wl_end rfl
     replace hS : SH M X w [eO 49 tyToken q43 g46,eI tyValue v_ g_v_] _:=hS.sel [0,3] rfl
     apply wl_start
     refine wl_batch 0 3 [] [0,4,37,39] (fS [0,4,37,39] [vL g_v_ v_,vI v11,vL g46 q43,vG [vU (r04_Closer ((gi v_ v11).Token.Kind)),vN,vI 0,vN,vF]]) [] H48 (by decide) (by kernel_rfl) trivial fun _ _ H50 hb => ?_
     replace hS:=hS.below hb
     have hd:=hS.hand [] [0,1] rfl rfl
     refine m_stp [40,0,4,37] (fS [0,4,37] [vL g_v_ v_,vI v11,vL g46 q43]) H50 rfl rfl rfl rfl (o_lit (T:=tyToken) (E:=49) (zv:=vG [vU 0,vN,vI 0,vN,vF]) [vU (r04_Closer ((gi v_ v11).Token.Kind)),vN,vI 0,vN,vF] ([(TToken.mk (r04_Closer ((gi v_ v11).Token.Kind)) [] 0 [] false)] : List TToken) [gL []] _ H50 hd rfl (by kernel_rfl) (by kernel_rfl) (by kernel_rfl) (by kernel_rfl) (by kernel_rfl) (by kernel_rfl) (by kernel_rfl) rfl (InnL.cons trivial InnL.nil)) (fun _ => rfl) fun _ _ v H54 hq => ?_
     obtain ⟨g51,rfl,hq⟩:=hq
     replace hS : SH M X w [eO 49 tyToken ([(TToken.mk (r04_Closer ((gi v_ v11).Token.Kind)) [] 0 [] false)] : List TToken) g51,eO 49 tyToken q43 g46,eI tyValue v_ g_v_] _:=hS.join [] [0,1] rfl rfl hq
     obtain ⟨ho55,hm⟩:=chkE hm
     obtain ⟨q56,hq56,hm⟩:=letE hm
     have hd:=hS.hand [1,0] [2] rfl rfl
     refine m_stp [41,0,4] (fS [0,4] [vL g_v_ v_,vI v11]) H54 rfl rfl rfl rfl (o_app2 (T:=tyToken) (zv:=vG [vU 0,vN,vI 0,vN,vF]) (g1:=g46) (g2:=g51) (l1:=q43) (l2:=([(TToken.mk (r04_Closer ((gi v_ v11).Token.Kind)) [] 0 [] false)] : List TToken)) q56 hq56.symm H54 hd rfl rfl rfl rfl rfl rfl rfl (by kernel_rfl) (by kernel_rfl) rfl rfl ho55) (fun _ => rfl) fun _ _ v H58 hq => ?_
     obtain ⟨g59,rfl,hq⟩:=hq
     replace hS : SH M X w [eO 49 tyToken q56 g59,eO 49 tyToken ([(TToken.mk (r04_Closer ((gi v_ v11).Token.Kind)) [] 0 [] false)] : List TToken) g51,eI tyValue v_ g_v_] _:=hS.join [1,0] [2] rfl rfl hq
     refine wl_batch 5 6 [] [0,3,4] (fS [0,3,4] [vL g_v_ v_,vL g59 q56,vI v11]) [] H58 (by decide) (by kernel_rfl) trivial fun _ _ H61 hb => ?_
     replace hS:=hS.below hb
     apply wl_end rfl
     replace hS : SH M X w [eO 49 tyToken q56 g59,eI tyValue v_ g_v_] _:=hS.sel [0,2] rfl
     obtain rfl:=someE hm
     exact ⟨g59,FrG.keep (ks:=[0,4,3]) H61 (by kernel_rfl),hS⟩
    ·rintro _ _ ⟨g63,H,hS⟩
     refine w_reg [] [0,3,4] (fS [0,3,4] [vL g_v_ v_,vL g63 z14,vI (w64 (v11 + 1))]) [] H (by kernel_rfl) trivial fun _ _ H65 hb => ?_
     replace hS:=hS.below hb
     exact ⟨_,Nat.lt_succ_self _,z14,w64 (v11 + 1),g63,hm,FrG.keep (ks:=[0,3,4]) H65 (by kernel_rfl),hS⟩
  ·rintro _ _ ⟨g69,H,hS⟩
   replace hS : SH M X w [eO 49 tyToken z5 g69] _:=hS.sel [0] rfl
   refine s_reg [] [2] [(2,[],vL g69 z5)] [] H (by kernel_rfl) trivial fun _ _ H72 hb => ?_
   replace hS:=hS.below hb
   apply w_ret
   obtain rfl:=someE hm
   exact retR1 H72 rfl rfl ⟨_,rfl,g69,rfl,(hS.sel [0] rfl)⟩
theorem r04_Tokens_ok {g_v_ : Gh} (m : Nat) (v_ : List TValue) (r : List TToken) (hm : r04_Tokens m v_ = some r) (M : Av) (w : World) (hS : S0 M [eI tyValue v_ g_v_] w) : DoesX Tryz.prog 62 ⟨[vL g_v_ v_]⟩ w (fun v w' => ∃ (g901 : Gh),v = vL g901 r ∧ SH M (fpl [eI tyValue v_ g_v_]) w [eO 49 tyToken r g901] w'):=⟨Tryz.call62 _,r04_Tokens_w m   m g_v_ M v_ r hm w hS⟩

theorem r04_Parse_w {g_l_ : Gh} (M : Av) (m : Nat) (l_ : List TToken) (r : (List TValue) × Int) (hm : r04_Parse m l_ = some r) (w : World) (hS : S0 M [eI tyToken l_ g_l_] w) : Calls Tryz.prog 50 ⟨[vL g_l_ l_]⟩ w (fun e w' => ∃ v,e = .returned v ∧ ∃ (g901 : Gh),v = vW [vL g901 r.1,vI r.2] ∧ SH M (fpl [eI tyToken l_ g_l_]) w [eO 51 tyValue r.1 g901] w'):=by
 rw [r04_Parse] at hm
 have hS0 : SH M (fpl [eI tyToken l_ g_l_]) w [eI tyToken l_ g_l_] w:=hS
 generalize hX : fpl [eI tyToken l_ g_l_] = X at hS0 ⊢
 clear hS hX
 have hS:=hS0
 clear hS0
 refine calls_entryP Tryz.func50 rfl Tryz.ntmps50 rfl fun _ H => ?_
 refine s_reg [] [0] [(0,[],vL g_l_ l_)] [] H (by kernel_rfl) trivial fun _ _ H2 hb => ?_
 replace hS:=hS.below hb
 apply w_seq
 refine s_reg [] [0,8] (fS [0,8] [vL g_l_ l_,vB (decide (1500 < (ln l_)))]) [] H2 (by kernel_rfl) trivial fun _ _ H4 hb => ?_
 replace hS:=hS.below hb
 refine w_if H4 rfl (fun hc => ?c38) (fun hc => ?_)
 case c38 =>
  replace hm:=bT hc hm
  refine s_reg [] [2,3] (fS [2,3] [vO,vI 4]) [] H4 (by kernel_rfl) trivial fun _ _ H6 hb => ?_
  replace hS:=hS.below hb
  replace hS : SH M X w [] _:=hS.sel [] rfl
  apply w_ret
  obtain rfl:=someE hm
  replace hS : SH M X w [eO 51 tyValue ([] : List TValue) (.nil)] _:=hS.addNil 51 tyValue
  exact retR2 H6 rfl rfl rfl ⟨_,rfl,Gh.nil,rfl,(hS.sel [0] rfl)⟩
 replace hm:=bF hc hm
 apply w_skip
 apply w_seq
 apply wl_start
 refine wl_batch 0 1 [] [10] [(10,[],vL g_l_ l_)] [] H4 (by decide) (by kernel_rfl) trivial fun _ _ H9 hb => ?_
 replace hS:=hS.below hb
 obtain ⟨y10,hy10,hm⟩:=bindE hm
 have hd:=hS.hand [0] [0] rfl rfl
 refine m_stp [11] [] H9 rfl rfl rfl rfl (o_callx H9 rfl rfl (r04_Parsed_ok (g_l_:=g_l_) m _ _ hy10 _ _ hd)) (fun _ => rfl) fun _ _ v H14 hq => ?_
 obtain ⟨g11,rfl,hq⟩:=hq
 replace hS : SH M X w [eO 51 tyValue y10.1 g11,eI tyToken l_ g_l_] _:=hS.join [0] [0] rfl rfl hq
 refine wl_batch 2 7 [] [4,5] (fS [4,5] [vL g11 y10.1,vB y10.2]) [] H14 (by decide) (by kernel_rfl) trivial fun _ _ H16 hb => ?_
 replace hS:=hS.below hb
 apply wl_end rfl
 replace hS : SH M X w [eO 51 tyValue y10.1 g11] _:=hS.sel [0] rfl
 apply w_seq
 refine s_reg [] [4,15] (fS [4,15] [vL g11 y10.1,vB (!y10.2)]) [] H16 (by kernel_rfl) trivial fun _ _ H18 hb => ?_
 replace hS:=hS.below hb
 refine w_if H18 rfl (fun hc => ?c37) (fun hc => ?_)
 case c37 =>
  replace hm:=bT hc hm
  refine s_reg [] [2,3] (fS [2,3] [vO,vI 20]) [] H18 (by kernel_rfl) trivial fun _ _ H20 hb => ?_
  replace hS:=hS.below hb
  replace hS : SH M X w [] _:=hS.sel [] rfl
  apply w_ret
  obtain rfl:=someE hm
  replace hS : SH M X w [eO 51 tyValue ([] : List TValue) (.nil)] _:=hS.addNil 51 tyValue
  exact retR2 H20 rfl rfl rfl ⟨_,rfl,Gh.nil,rfl,(hS.sel [0] rfl)⟩
 replace hm:=bF hc hm
 apply w_skip
 apply w_seq
 apply w_seq
 apply wl_start
 refine wl_batch 0 1 [] [4,16] (fS [4,16] [vL g11 y10.1,vL g11 y10.1]) [] H18 (by decide) (by kernel_rfl) trivial fun _ _ H23 hb => ?_
 replace hS:=hS.below hb
 obtain ⟨y24,hy24,hm⟩:=bindE hm
 replace hS : SH M X w [eO 51 tyValue y10.1 g11] _:=hS.sel [0] rfl
 have hd:=SH.lendH hS
 refine m_stp [17,4] [(4,[],vL g11 y10.1)] H23 rfl rfl rfl rfl (o_callx H23 rfl rfl (r04_Tokens_ok (g_v_:=g11) m _ _ hy24 _ _ hd)) (fun _ => rfl) fun _ _ v H28 hq => ?_
 obtain ⟨g25,rfl,hq⟩:=hq
 replace hS : SH M X w [eO 49 tyToken y24 g25,eO 51 tyValue y10.1 g11] _:=SH.lendJ hS hq (free1 (free_own (fun _ _ _ _ _ h => h) _ _))
 refine wl_batch 2 4 [] [4,19] (fS [4,19] [vL g11 y10.1,vB (decide (1500 < (ln y24)))]) [] H28 (by decide) (by kernel_rfl) trivial fun _ _ H30 hb => ?_
 replace hS:=hS.below hb
 apply wl_end rfl
 replace hS : SH M X w [eO 51 tyValue y10.1 g11] _:=hS.sel [1] rfl
 refine w_if H30 rfl (fun hc => ?_) (fun hc => ?c36)
 case c36 =>
  replace hm:=bF hc hm
  apply w_skip
  refine s_reg [] [2,3] (fS [2,3] [vL g11 y10.1,vI 0]) [] H30 (by kernel_rfl) trivial fun _ _ H35 hb => ?_
  replace hS:=hS.below hb
  apply w_ret
  obtain rfl:=someE hm
  exact retR2 H35 rfl rfl rfl ⟨_,rfl,g11,rfl,(hS.sel [0] rfl)⟩
 replace hm:=bT hc hm
 refine s_reg [] [2,3] (fS [2,3] [vO,vI 4]) [] H30 (by kernel_rfl) trivial fun _ _ H32 hb => ?_
 replace hS:=hS.below hb
 replace hS : SH M X w [] _:=hS.sel [] rfl
 apply w_ret
 obtain rfl:=someE hm
 replace hS : SH M X w [eO 51 tyValue ([] : List TValue) (.nil)] _:=hS.addNil 51 tyValue
 exact retR2 H32 rfl rfl rfl ⟨_,rfl,Gh.nil,rfl,(hS.sel [0] rfl)⟩
theorem r04_Parse_ok {g_l_ : Gh} (m : Nat) (l_ : List TToken) (r : (List TValue) × Int) (hm : r04_Parse m l_ = some r) (M : Av) (w : World) (hS : S0 M [eI tyToken l_ g_l_] w) : DoesX Tryz.prog 50 ⟨[vL g_l_ l_]⟩ w (fun v w' => ∃ (g901 : Gh),v = vW [vL g901 r.1,vI r.2] ∧ SH M (fpl [eI tyToken l_ g_l_]) w [eO 51 tyValue r.1 g901] w'):=⟨Tryz.call50 _,r04_Parse_w M m   l_ r hm w hS⟩

theorem r04_Of_w  (M : Av) (m : Nat) (s : Str) (r : List TValue) (hm : r04_Of m s = some r) (w : World) (hS : S0 M [] w) : Calls Tryz.prog 24 ⟨[vS s]⟩ w (fun e w' => ∃ v,e = .returned v ∧ ∃ (g901 : Gh),v = vL g901 r ∧ SH M (fpl []) w [eO 51 tyValue r g901] w'):=by
 rw [r04_Of] at hm
 have hS0 : SH M (fpl []) w [] w:=hS
 generalize hX : fpl [] = X at hS0 ⊢
 clear hS hX
 have hS:=hS0
 clear hS0
 refine calls_entryP Tryz.func24 rfl Tryz.ntmps24 rfl fun _ H => ?_
 refine s_reg [] [0] [(0,[],vS s)] [] H (by kernel_rfl) trivial fun _ _ H2 hb => ?_
 replace hS:=hS.below hb
 apply w_seq
 apply wl_start
 refine wl_batch 0 1 [] [8] [(8,[],vS s)] [] H2 (by decide) (by kernel_rfl) trivial fun _ _ H4 hb => ?_
 replace hS:=hS.below hb
 obtain ⟨y5,hy5,hm⟩:=bindE hm
 have hd:=hS.hand [] [] rfl rfl
 refine m_stp [9] [] H4 rfl rfl rfl rfl (o_callx H4 rfl rfl (r02_Tokens_ok m _ _ hy5 _ _ hd)) (fun _ => rfl) fun _ _ v H9 hq => ?_
 obtain ⟨g6,rfl,hq⟩:=hq
 replace hS : SH M X w [eO 49 tyToken y5.1 g6] _:=hS.join [] [] rfl rfl hq
 refine wl_batch 2 7 [] [3] [(3,[],vL g6 y5.1)] [] H9 (by decide) (by kernel_rfl) trivial fun _ _ H11 hb => ?_
 replace hS:=hS.below hb
 apply wl_end rfl
 apply w_seq
 apply wl_start
 refine wl_batch 0 1 [] [13] [(13,[],vL g6 y5.1)] [] H11 (by decide) (by kernel_rfl) trivial fun _ _ H13 hb => ?_
 replace hS:=hS.below hb
 replace hS : SH M X w [eI tyToken y5.1 g6] _:=SH.frz1 (hS.sel [0] rfl)
 obtain ⟨y14,hy14,hm⟩:=bindE hm
 have hd:=hS.hand [0] [0] rfl rfl
 refine m_stp [14] [] H13 rfl rfl rfl rfl (o_callx H13 rfl rfl (r04_Parse_ok (g_l_:=g6) m _ _ hy14 _ _ hd)) (fun _ => rfl) fun _ _ v H18 hq => ?_
 obtain ⟨g15,rfl,hq⟩:=hq
 replace hS : SH M X w [eO 51 tyValue y14.1 g15,eI tyToken y5.1 g6] _:=hS.join [0] [0] rfl rfl hq
 refine wl_batch 2 7 [] [5] [(5,[],vL g15 y14.1)] [] H18 (by decide) (by kernel_rfl) trivial fun _ _ H20 hb => ?_
 replace hS:=hS.below hb
 apply wl_end rfl
 replace hS : SH M X w [eO 51 tyValue y14.1 g15] _:=hS.sel [0] rfl
 refine s_reg [] [2] [(2,[],vL g15 y14.1)] [] H20 (by kernel_rfl) trivial fun _ _ H22 hb => ?_
 replace hS:=hS.below hb
 apply w_ret
 obtain rfl:=someE hm
 exact retR1 H22 rfl rfl ⟨_,rfl,g15,rfl,(hS.sel [0] rfl)⟩
theorem r04_Of_ok  (m : Nat) (s : Str) (r : List TValue) (hm : r04_Of m s = some r) (M : Av) (w : World) (hS : S0 M [] w) : DoesX Tryz.prog 24 ⟨[vS s]⟩ w (fun v w' => ∃ (g901 : Gh),v = vL g901 r ∧ SH M (fpl []) w [eO 51 tyValue r g901] w'):=⟨Tryz.call24 _,r04_Of_w M m   s r hm w hS⟩

def tyDecl : Ty TDecl where
  z:=3
  enc:=fun x g => [vS x.Name,.slice (g 0).a x.Value.length (g 0).c,vB x.Important]
  inn:=fun M w x g => SlG tyValue M w x.Value (g 0) ∧ True
  len:=fun _ _ => rfl
  one:=fun _ _ => rfl
  kp:=fun h k hX => ⟨h.1.kp k hX,trivial⟩
  anti:=fun h hM => ⟨h.1.anti hM,trivial⟩
  fresh:=fun h => ⟨h.1.fresh,trivial⟩
theorem tyDecl_i0 {M : Av} {w : World} {x : TDecl} {g : Nat → Gh} (h : tyDecl.inn M w x g) : SlG tyValue M w x.Value (g 0):=(show SlG tyValue M w x.Value (g 0) ∧ True from h).1
theorem tyDecl_mk {M : Av} {w : World} {x : TDecl} {g : Nat → Gh} (h0 : SlG tyValue M w x.Value (g 0)) : tyDecl.inn M w x g:=show SlG tyValue M w x.Value (g 0) ∧ True from ⟨h0,trivial⟩
theorem law27_decl_w  (M : Av) (m : Nat) (name_ : Str) (s : Str) (r : TDecl) (hm : law27_decl m name_ s = some r) (w : World) (hS : S0 M [] w) : Calls Tryz.prog 22 ⟨[vS name_,vS s]⟩ w (fun e w' => ∃ v,e = .returned v ∧ ∃ (g901 : Gh),v = vG [vS r.Name,vL g901 r.Value,vB r.Important] ∧ SH M (fpl []) w [eO 51 tyValue r.Value g901] w'):=by
 rw [law27_decl] at hm
 have hS0 : SH M (fpl []) w [] w:=hS
 generalize hX : fpl [] = X at hS0 ⊢
 clear hS hX
 have hS:=hS0
 clear hS0
 refine calls_entryP Tryz.func22 rfl Tryz.ntmps22 rfl fun _ H => ?_
 apply w_seq
 apply wl_start
 have hd:=hS.hand [] [] rfl rfl
 refine m_stp [4,0,1] (fS [0,1] [vS name_,vS s]) H rfl rfl rfl rfl (o_alloc [vN,vO,vF] (z:=vG [vN,vO,vF]) hd (by kernel_rfl) rfl) (fun _ => rfl) fun _ _ v H3 hq => ?_
 obtain ⟨b1,rfl,hq⟩:=hq
 replace hS : SH M X w [eB b1 [vN,vO,vF]] _:=hS.join [] [] rfl rfl hq
 apply wl_end rfl
 apply w_seq
 apply wl_start
 refine wl_batch 0 2 [] [4,5,6] (fS [4,5,6] [vP b1,vS name_,vS s]) [] H3 (by decide) (by kernel_rfl) trivial fun _ _ H5 hb => ?_
 replace hS:=hS.below hb
 obtain ⟨y6,hy6,hm⟩:=bindE hm
 have hd:=hS.hand [] [0] rfl rfl
 refine m_stp [7,4,5] (fS [4,5] [vP b1,vS name_]) H5 rfl rfl rfl rfl (o_callx H5 rfl rfl (r04_Of_ok m _ _ hy6 _ _ hd)) (fun _ => rfl) fun _ _ v H10 hq => ?_
 obtain ⟨g7,rfl,hq⟩:=hq
 replace hS : SH M X w [eO 51 tyValue y6 g7,eB b1 [vN,vO,vF]] _:=hS.join [] [0] rfl rfl hq
 refine wl_batch 3 4 [] [4,8] (fS [4,8] [vP b1,vG [vS name_,vL g7 y6,vF]]) [] H10 (by decide) (by kernel_rfl) trivial fun _ _ H12 hb => ?_
 replace hS:=hS.below hb
 have hd:=hS.hand [1] [0] rfl rfl
 refine m_stp0 [4] [(4,[],vP b1)] H12 rfl rfl rfl (o_store [vS name_,vL g7 y6,vF] H12 hd rfl rfl (by kernel_rfl) rfl rfl rfl) rfl fun _ _ H14 hq => ?_
 obtain ⟨_,hq⟩:=hq
 replace hS : SH M X w [eB b1 [vS name_,vL g7 y6,vF],eO 51 tyValue y6 g7] _:=hS.join [1] [0] rfl rfl hq
 apply wl_end rfl
 apply w_ret
 obtain rfl:=someE hm
 exact retR1 H14 rfl (oneRes_agg rfl (hS.bk 0 rfl) Tryz.underlying38 rfl (by kernel_rfl)) ⟨_,rfl,g7,rfl,(hS.sel [1] rfl)⟩
theorem law27_decl_ok  (m : Nat) (name_ : Str) (s : Str) (r : TDecl) (hm : law27_decl m name_ s = some r) (M : Av) (w : World) (hS : S0 M [] w) : DoesX Tryz.prog 22 ⟨[vS name_,vS s]⟩ w (fun v w' => ∃ (g901 : Gh),v = vG [vS r.Name,vL g901 r.Value,vB r.Important] ∧ SH M (fpl []) w [eO 51 tyValue r.Value g901] w'):=⟨Tryz.call22 _,law27_decl_w M m   name_ s r hm w hS⟩

theorem nest_closer_w  (M : Av) (kind : Int) (r : Int) (hm : nest_closer kind = r) (w : World) (hS : S0 M [] w) : Calls Tryz.prog 82 ⟨[vU kind]⟩ w (fun e w' => ∃ v,e = .returned v ∧ v = vU r ∧ SH M (fpl []) w [] w'):=by
 rw [nest_closer] at hm
 have hS0 : SH M (fpl []) w [] w:=hS
 generalize hX : fpl [] = X at hS0 ⊢
 clear hS hX
 have hS:=hS0
 clear hS0
 refine calls_entryP Tryz.func82 rfl Tryz.ntmps82 rfl fun _ H => ?_
 refine s_reg [] [0] [(0,[],vU kind)] [] H (by kernel_rfl) trivial fun _ _ H2 hb => ?_
 replace hS:=hS.below hb
 apply w_seq
 refine s_reg [] [0,3] (fS [0,3] [vU kind,vU kind]) [] H2 (by kernel_rfl) trivial fun _ _ H4 hb => ?_
 replace hS:=hS.below hb
 apply w_block
 refine s_reg [] [0,3,4] (fS [0,3,4] [vU kind,vU kind,vB (kind == 2)]) [] H4 (by kernel_rfl) trivial fun _ _ H6 hb => ?_
 replace hS:=hS.below hb
 refine w_if H6 rfl (fun hc => ?c24) (fun hc => ?_)
 case c24 =>
  replace hm:=bT hc hm
  refine s_reg [] [2] [(2,[],vU 22)] [] H6 (by kernel_rfl) trivial fun _ _ H8 hb => ?_
  replace hS:=hS.below hb
  apply w_ret
  subst hm
  exact retR1 H8 rfl rfl ⟨_,rfl,rfl,(hS.sel [] rfl)⟩
 replace hm:=bF hc hm
 obtain ⟨z9,hz,hm⟩:=letE hm
 refine w_cut (fun a' w' => Fr 12 (fS [0,6] [vU kind,vB z9]) a' ∧ SH M X w [] w') ?_ ?_
 ·replace hm:=hz.symm
  refine s_reg [] [0,3,6] (fS [0,3,6] [vU kind,vU kind,vB (kind == 19)]) [] H6 (by kernel_rfl) trivial fun _ _ H11 hb => ?_
  replace hS:=hS.below hb
  refine w_if H11 rfl (fun hc => ?c17) (fun hc => ?_)
  case c17 =>
   replace hm:=bT hc hm
   apply w_skip
   subst hm
   exact ⟨FrG.keep (ks:=[0,6]) H11 (by kernel_rfl),hS⟩
  replace hm:=bF hc hm
  refine s_reg [] [0,3,6] (fS [0,3,6] [vU kind,vU kind,vB (kind == 21)]) [] H11 (by kernel_rfl) trivial fun _ _ H13 hb => ?_
  replace hS:=hS.below hb
  refine w_if H13 rfl (fun hc => ?c16) (fun hc => ?_)
  case c16 =>
   replace hm:=bT hc hm
   apply w_skip
   subst hm
   exact ⟨FrG.keep (ks:=[0,6]) H13 (by kernel_rfl),hS⟩
  replace hm:=bF hc hm
  refine w_reg [] [0,6] (fS [0,6] [vU kind,vB (kind == 23)]) [] H13 (by kernel_rfl) trivial fun _ _ H15 hb => ?_
  replace hS:=hS.below hb
  subst hm
  exact ⟨FrG.keep (ks:=[0,6]) H15 (by kernel_rfl),hS⟩
 ·rintro _ _ ⟨H,hS⟩
  refine w_if H rfl (fun hc => ?c22) (fun hc => ?_)
  case c22 =>
   replace hm:=bT hc hm
   refine s_reg [] [2] [(2,[],vU (wu8 (kind + 1)))] [] H (by kernel_rfl) trivial fun _ _ H19 hb => ?_
   replace hS:=hS.below hb
   apply w_ret
   subst hm
   exact retR1 H19 rfl rfl ⟨_,rfl,rfl,(hS.sel [] rfl)⟩
  replace hm:=bF hc hm
  apply w_skip
  refine s_reg [] [2] [(2,[],vU 0)] [] H (by kernel_rfl) trivial fun _ _ H21 hb => ?_
  replace hS:=hS.below hb
  apply w_ret
  subst hm
  exact retR1 H21 rfl rfl ⟨_,rfl,rfl,(hS.sel [] rfl)⟩
theorem nest_closer_ok  (kind : Int) : Ret Tryz.prog 82 ⟨[vU kind]⟩ (vU (nest_closer kind)):=retP_of (Tryz.call82 _) (fun w h => nest_closer_w F0   kind _ rfl w h)

def nest_look_S (rec_ : (List TValue) → Int → Option (Tnest_found)) : Prop:=∀ (g_v_ : Gh) (M : Av) (v_ : List TValue) (closes : Int) (r : Tnest_found),rec_ v_ closes = some r → ∀ w,S0 M [eI tyValue v_ g_v_] w → Calls Tryz.prog 60 ⟨[vL g_v_ v_,vU closes]⟩ w (fun e w' => ∃ v,e = .returned v ∧ v = vG [vI r.depth,vI r.tokens,vB r.bad] ∧ SH M (fpl [eI tyValue v_ g_v_]) w [] w')
theorem nest_look_w (m : Nat) : ∀ (k : Nat),nest_look_S (nest_look_r m  k):=by
 intro k
 induction k with
 | zero => intro g_v_ M v_ closes r hm; exact noneE hm
 | succ k ih =>
  intro g_v_ M v_ closes r hm w hS
  rw [nest_look_r] at hm
  have hS0 : SH M (fpl [eI tyValue v_ g_v_]) w [eI tyValue v_ g_v_] w:=hS
  generalize hX : fpl [eI tyValue v_ g_v_] = X at hS0 ⊢
  clear hS hX
  have hS:=hS0
  clear hS0
  refine calls_entryP Tryz.func60 rfl Tryz.ntmps60 rfl fun _ H => ?_
  apply w_seq
  apply wl_start
  have hd:=hS.hand [] [0] rfl rfl
  refine m_stp [4,0,1] (fS [0,1] [vL g_v_ v_,vU closes]) H rfl rfl rfl rfl (o_alloc [vI 0,vI 0,vF] (z:=vG [vI 0,vI 0,vF]) hd (by kernel_rfl) rfl) (fun _ => rfl) fun _ _ v H3 hq => ?_
  obtain ⟨b1,rfl,hq⟩:=hq
  replace hS : SH M X w [eB b1 [vI 0,vI 0,vF],eI tyValue v_ g_v_] _:=hS.join [] [0] rfl rfl hq
  apply wl_end rfl
  apply w_seq
  apply wl_start
  have hd:=hS.hand [] [0,1] rfl rfl
  refine m_stp [5,0,1,4] (fS [0,1,4] [vL g_v_ v_,vU closes,vP b1]) H3 rfl rfl rfl rfl (o_alloc [vI 0,vI 0,vF] (z:=vG [vI 0,vI 0,vF]) hd (by kernel_rfl) rfl) (fun _ => rfl) fun _ _ v H6 hq => ?_
  obtain ⟨b4,rfl,hq⟩:=hq
  replace hS : SH M X w [eB b4 [vI 0,vI 0,vF],eB b1 [vI 0,vI 0,vF],eI tyValue v_ g_v_] _:=hS.join [] [0,1] rfl rfl hq
  apply wl_end rfl
  obtain ⟨z7,hz,hm⟩:=bindE hm
  refine w_cut (fun a' w' => Fr 71 (fS [4,5] [vP b1,vP b4]) a' ∧ SH M X w [eB b4 [vI z7.1,vI z7.2.1,vB z7.2.2],eB b1 [vI 0,vI 0,vF],eI tyValue v_ g_v_] w') ?_ ?_
  ·replace hm:=hz
   refine s_reg [] [1,4,5,10,11,12] (fS [1,4,5,10,11,12] [vU closes,vP b1,vP b4,vL g_v_ v_,vI (ln v_),vI 0]) [] H6 (by kernel_rfl) trivial fun _ _ H9 hb => ?_
   replace hS:=hS.below hb
   apply w_block
   refine w_loop (fun kk a' w' => ∃ (v10 : Int) (v11 : Int) (v12 : Int) (v13 : Bool),nest_look_L1 m v_ closes (nest_look_r m k) kk v10 v11 v12 v13 = some _ ∧ Fr 71 (fS [1,4,5,10,11,12] [vU closes,vP b1,vP b4,vL g_v_ v_,vI (ln v_),vI v10]) a' ∧ SH M X w [eB b4 [vI v11,vI v12,vB v13],eB b1 [vI 0,vI 0,vF],eI tyValue v_ g_v_] w') ⟨_,0,0,0,false,hm,FrG.keep (ks:=[1,4,5,10,11,12]) H9 (by kernel_rfl),hS⟩ ?_
   clear hm H9 hS
   rintro kk _ _ ⟨v10,v11,v12,v13,hm,H,hS⟩
   cases kk with
   | zero => exact noneE hm
   | succ kk =>
    rw [nest_look_L1] at hm
    refine s_reg [] [1,4,5,10,11,12,13] (fS [1,4,5,10,11,12,13] [vU closes,vP b1,vP b4,vL g_v_ v_,vI (ln v_),vI v10,vB (decide (v10 < (ln v_)))]) [] H (by kernel_rfl) trivial fun _ _ H15 hb => ?_
    replace hS:=hS.below hb
    apply w_seq
    refine w_if H15 rfl (fun hc => ?_) (fun hc => ?c63)
    case c63 =>
     replace hm:=bF hc hm
     apply w_exit rfl
     obtain rfl:=someE hm
     exact ⟨FrG.keep (ks:=[4,5]) H15 (by kernel_rfl),hS⟩
    replace hm:=bT hc hm
    apply w_skip
    obtain ⟨z16,hz,hm⟩:=bindE hm
    refine w_cut (fun a' w' => Fr 71 (fS [1,4,5,10,11,12] [vU closes,vP b1,vP b4,vL g_v_ v_,vI (ln v_),vI v10]) a' ∧ SH M X w [eB b4 [vI z16.2.2,vI z16.1,vB z16.2.1],eB b1 [vI 0,vI 0,vF],eI tyValue v_ g_v_] w') ?_ ?_
    ·replace hm:=hz
     apply w_block
     apply w_seq
     apply wl_start
     obtain ⟨ho17,hm⟩:=chkE hm
     refine wl_batch 0 2 [(vG [vU ((gi v_ v10).Token.Kind),vS (gi v_ v10).Token.Text,vI ((gi v_ v10).Token.Num),vS (gi v_ v10).Token.Unit,vB ((gi v_ v10).Token.Flag),.slice (g_v_.s (v10).toNat 0).a (((gi v_ v10).List_).length) (g_v_.s (v10).toNat 0).c])] [1,4,5,10,11,12,15] (fS [1,4,5,10,11,12,15] [vU closes,vP b1,vP b4,vL g_v_ v_,vI (ln v_),vI v10,vG [vU ((gi v_ v10).Token.Kind),vS (gi v_ v10).Token.Text,vI ((gi v_ v10).Token.Num),vS (gi v_ v10).Token.Unit,vB ((gi v_ v10).Token.Flag),.slice (g_v_.s (v10).toNat 0).a (((gi v_ v10).List_).length) (g_v_.s (v10).toNat 0).c]]) [fun _ => oka g_v_.a ∧ 0 ≤ v10 ∧ v10 < ln v_,fun wz => V.atN (ab g_v_.a) (ao g_v_.a + (v10).toNat * 6) [vU ((gi v_ v10).Token.Kind),vS (gi v_ v10).Token.Text,vI ((gi v_ v10).Token.Num),vS (gi v_ v10).Token.Unit,vB ((gi v_ v10).Token.Flag),.slice (g_v_.s (v10).toNat 0).a (((gi v_ v10).List_).length) (g_v_.s (v10).toNat 0).c] 0 wz] H15 (by decide) (by kernel_rfl) ⟨((hS.im 2 rfl).oki ho17),((hS.im 2 rfl).atA ho17 0 rfl),trivial⟩ fun _ _ H19 hb => ?_
     replace hS:=hS.below hb
     have hd:=hS.hand [] [0,1,2] rfl rfl
     refine m_stp [7,1,4,5,10,11,12,15] (fS [1,4,5,10,11,12,15] [vU closes,vP b1,vP b4,vL g_v_ v_,vI (ln v_),vI v10,vG [vU ((gi v_ v10).Token.Kind),vS (gi v_ v10).Token.Text,vI ((gi v_ v10).Token.Num),vS (gi v_ v10).Token.Unit,vB ((gi v_ v10).Token.Flag),.slice (g_v_.s (v10).toNat 0).a (((gi v_ v10).List_).length) (g_v_.s (v10).toNat 0).c]]) H19 rfl rfl rfl rfl (o_alloc [vU 0,vN,vI 0,vN,vF,vO] (z:=vG [vU 0,vN,vI 0,vN,vF,vO]) hd (by kernel_rfl) rfl) (fun _ => rfl) fun _ _ v H22 hq => ?_
     obtain ⟨b20,rfl,hq⟩:=hq
     replace hS : SH M X w [eB b20 [vU 0,vN,vI 0,vN,vF,vO],eB b4 [vI v11,vI v12,vB v13],eB b1 [vI 0,vI 0,vF],eI tyValue v_ g_v_] _:=hS.join [] [0,1,2] rfl rfl hq
     have hd:=hS.hand [0] [1,2,3] rfl rfl
     refine m_stp0 [1,4,5,7,10,11,12] (fS [1,4,5,7,10,11,12] [vU closes,vP b1,vP b4,vP b20,vL g_v_ v_,vI (ln v_),vI v10]) H22 rfl rfl rfl (o_store [vU ((gi v_ v10).Token.Kind),vS (gi v_ v10).Token.Text,vI ((gi v_ v10).Token.Num),vS (gi v_ v10).Token.Unit,vB ((gi v_ v10).Token.Flag),.slice (g_v_.s (v10).toNat 0).a (((gi v_ v10).List_).length) (g_v_.s (v10).toNat 0).c] H22 hd rfl rfl (by kernel_rfl) rfl rfl rfl) rfl fun _ _ H24 hq => ?_
     obtain ⟨_,hq⟩:=hq
     replace hS : SH M X w [eB b20 [vU ((gi v_ v10).Token.Kind),vS (gi v_ v10).Token.Text,vI ((gi v_ v10).Token.Num),vS (gi v_ v10).Token.Unit,vB ((gi v_ v10).Token.Flag),.slice (g_v_.s (v10).toNat 0).a (((gi v_ v10).List_).length) (g_v_.s (v10).toNat 0).c],eB b4 [vI v11,vI v12,vB v13],eB b1 [vI 0,vI 0,vF],eI tyValue v_ g_v_] _:=hS.join [0] [1,2,3] rfl rfl hq
     apply wl_end rfl
     apply w_seq
     apply wl_start
     refine wl_batch 0 4 [(vI v12)] [1,4,5,7,10,11,12,18,19] (fS [1,4,5,7,10,11,12,18,19] [vU closes,vP b1,vP b4,vP b20,vL g_v_ v_,vI (ln v_),vI v10,vI (w64 (v12 + 1)),vA b4 1]) [rA b4 1 (vI v12)] H24 (by decide) (by kernel_rfl) ⟨((hS.bk 1 rfl).at1 rfl),trivial⟩ fun _ _ H26 hb => ?_
     replace hS:=hS.below hb
     have hd:=hS.hand [1] [0,2,3] rfl rfl
     refine m_stp0 [1,4,5,7,10,11,12] (fS [1,4,5,7,10,11,12] [vU closes,vP b1,vP b4,vP b20,vL g_v_ v_,vI (ln v_),vI v10]) H26 rfl rfl rfl (o_store [vI v11,vI (w64 (v12 + 1)),vB v13] H26 hd rfl rfl (by kernel_rfl) rfl rfl rfl) rfl fun _ _ H28 hq => ?_
     obtain ⟨_,hq⟩:=hq
     replace hS : SH M X w [eB b4 [vI v11,vI (w64 (v12 + 1)),vB v13],eB b20 [vU ((gi v_ v10).Token.Kind),vS (gi v_ v10).Token.Text,vI ((gi v_ v10).Token.Num),vS (gi v_ v10).Token.Unit,vB ((gi v_ v10).Token.Flag),.slice (g_v_.s (v10).toNat 0).a (((gi v_ v10).List_).length) (g_v_.s (v10).toNat 0).c],eB b1 [vI 0,vI 0,vF],eI tyValue v_ g_v_] _:=hS.join [1] [0,2,3] rfl rfl hq
     apply wl_end rfl
     refine s_reg [(vU ((gi v_ v10).Token.Kind)),(vU (nest_closer ((gi v_ v10).Token.Kind)))] [1,4,5,7,8,10,11,12] (fS [1,4,5,7,8,10,11,12] [vU closes,vP b1,vP b4,vP b20,vU (nest_closer ((gi v_ v10).Token.Kind)),vL g_v_ v_,vI (ln v_),vI v10]) [rA b20 0 (vU ((gi v_ v10).Token.Kind)),rB 82 [vU ((gi v_ v10).Token.Kind)] (vU (nest_closer ((gi v_ v10).Token.Kind)))] H28 (by kernel_rfl) ⟨((hS.bk 1 rfl).at1 rfl),((nest_closer_ok _).b),trivial⟩ fun _ _ H30 hb => ?_
     replace hS:=hS.below hb
     obtain ⟨z31,hz,hm⟩:=bindE hm
     refine w_cut (fun a' w' => Fr 71 (fS [1,4,5,7,8,10,11,12] [vU closes,vP b1,vP b4,vP b20,vU (nest_closer ((gi v_ v10).Token.Kind)),vL g_v_ v_,vI (ln v_),vI v10]) a' ∧ SH M X w [eB b4 [vI v11,vI (w64 (v12 + 1)),vB z31],eB b20 [vU ((gi v_ v10).Token.Kind),vS (gi v_ v10).Token.Text,vI ((gi v_ v10).Token.Num),vS (gi v_ v10).Token.Unit,vB ((gi v_ v10).Token.Flag),.slice (g_v_.s (v10).toNat 0).a (((gi v_ v10).List_).length) (g_v_.s (v10).toNat 0).c],eB b1 [vI 0,vI 0,vF],eI tyValue v_ g_v_] w') ?_ ?_
     ·replace hm:=hz
      obtain ⟨x32,hx32,hm⟩:=letE hm
      obtain ⟨x33,hx33,hm⟩:=letE hm
      refine s_reg [(vU ((gi v_ v10).Token.Kind)),(.slice (g_v_.s (v10).toNat 0).a (((gi v_ v10).List_).length) (g_v_.s (v10).toNat 0).c)] [1,4,5,7,8,10,11,12,42] (fS [1,4,5,7,8,10,11,12,42] [vU closes,vP b1,vP b4,vP b20,vU (nest_closer ((gi v_ v10).Token.Kind)),vL g_v_ v_,vI (ln v_),vI v10,vB x33]) [fun wz => ((closes != 0) = true ∧ True → V.at1 ⟨b20,0,none⟩ (vU ((gi v_ v10).Token.Kind)) wz),fun wz => (((nest_closer ((gi v_ v10).Token.Kind)) == 0) = true ∧ x32 = false ∧ True → V.at1 ⟨b20,5,none⟩ (.slice (g_v_.s (v10).toNat 0).a (((gi v_ v10).List_).length) (g_v_.s (v10).toNat 0).c) wz)] H30 (by subst hx32 hx33; kernel_rfl) ⟨fun hg => (hS.bk 1 rfl).at1 rfl,fun hg => (hS.bk 1 rfl).at1 rfl,trivial⟩ fun _ _ H35 hb => ?_
      replace hS:=hS.below hb
      refine w_if H35 rfl (fun hc => ?_) (fun hc => ?c40)
      case c40 =>
       replace hm:=bF hc hm
       apply w_skip
       obtain rfl:=someE hm
       exact ⟨FrG.keep (ks:=[1,4,5,7,8,10,11,12]) H35 (by kernel_rfl),hS⟩
      replace hm:=bT hc hm
      apply wl_start
      refine wl_batch 0 1 [] [1,4,5,7,8,10,11,12,43] (fS [1,4,5,7,8,10,11,12,43] [vU closes,vP b1,vP b4,vP b20,vU (nest_closer ((gi v_ v10).Token.Kind)),vL g_v_ v_,vI (ln v_),vI v10,vA b4 2]) [] H35 (by decide) (by kernel_rfl) trivial fun _ _ H37 hb => ?_
      replace hS:=hS.below hb
      have hd:=hS.hand [0] [1,2,3] rfl rfl
      refine m_stp0 [1,4,5,7,8,10,11,12] (fS [1,4,5,7,8,10,11,12] [vU closes,vP b1,vP b4,vP b20,vU (nest_closer ((gi v_ v10).Token.Kind)),vL g_v_ v_,vI (ln v_),vI v10]) H37 rfl rfl rfl (o_store [vI v11,vI (w64 (v12 + 1)),vT] H37 hd rfl rfl (by kernel_rfl) rfl rfl rfl) rfl fun _ _ H39 hq => ?_
      obtain ⟨_,hq⟩:=hq
      replace hS : SH M X w [eB b4 [vI v11,vI (w64 (v12 + 1)),vT],eB b20 [vU ((gi v_ v10).Token.Kind),vS (gi v_ v10).Token.Text,vI ((gi v_ v10).Token.Num),vS (gi v_ v10).Token.Unit,vB ((gi v_ v10).Token.Flag),.slice (g_v_.s (v10).toNat 0).a (((gi v_ v10).List_).length) (g_v_.s (v10).toNat 0).c],eB b1 [vI 0,vI 0,vF],eI tyValue v_ g_v_] _:=hS.join [0] [1,2,3] rfl rfl hq
      apply wl_end rfl
      obtain rfl:=someE hm
      exact ⟨FrG.keep (ks:=[1,4,5,7,8,10,11,12]) H39 (by kernel_rfl),hS⟩
     ·rintro _ _ ⟨H,hS⟩
      apply w_seq
      obtain ⟨x41,hx41,hm⟩:=letE hm
      refine s_reg [] [1,4,5,7,8,10,11,12,45] (fS [1,4,5,7,8,10,11,12,45] [vU closes,vP b1,vP b4,vP b20,vU (nest_closer ((gi v_ v10).Token.Kind)),vL g_v_ v_,vI (ln v_),vI v10,vB x41]) [] H (by subst hx41; kernel_rfl) trivial fun _ _ H43 hb => ?_
      replace hS:=hS.below hb
      refine w_if H43 rfl (fun hc => ?c58) (fun hc => ?_)
      case c58 =>
       replace hm:=bT hc hm
       apply w_exit rfl
       obtain rfl:=someE hm
       replace hS : SH M X w [eB b4 [vI v11,vI (w64 (v12 + 1)),vB z31],eB b1 [vI 0,vI 0,vF],eI tyValue v_ g_v_] _:=hS.sel [0,2,3] rfl
       exact ⟨FrG.keep (ks:=[1,4,5,10,11,12]) H43 (by kernel_rfl),hS⟩
      replace hm:=bF hc hm
      apply w_skip
      apply w_seq
      apply wl_start
      obtain ⟨y44,hy44,hm⟩:=bindE hm
      refine wl_batch 0 4 [(.slice (g_v_.s (v10).toNat 0).a (((gi v_ v10).List_).length) (g_v_.s (v10).toNat 0).c),(vG [vI y44.depth,vI y44.tokens,vB y44.bad])] [1,4,5,10,11,12,49] (fS [1,4,5,10,11,12,49] [vU closes,vP b1,vP b4,vL g_v_ v_,vI (ln v_),vI v10,vG [vI y44.depth,vI y44.tokens,vB y44.bad]]) [fun wz => V.at1 ⟨b20,5,none⟩ (.slice (g_v_.s (v10).toNat 0).a (((gi v_ v10).List_).length) (g_v_.s (v10).toNat 0).c) wz,rB 60 [.slice (g_v_.s (v10).toNat 0).a (((gi v_ v10).List_).length) (g_v_.s (v10).toNat 0).c,vU (nest_closer ((gi v_ v10).Token.Kind))] (vG [vI y44.depth,vI y44.tokens,vB y44.bad])] H43 (by decide) (by kernel_rfl) ⟨((hS.bk 1 rfl).at1 rfl),(retB_of (s0im s0nil (tyValue_i0 ((hS.im 3 rfl).el ho17))) (Tryz.call60 _) (fun w' h' => ih ((g_v_.s (v10).toNat 0)) F0 _ _ _ hy44 w' h')),trivial⟩ fun _ _ H46 hb => ?_
      replace hS:=hS.below hb
      have hd:=hS.hand [] [0,1,2,3] rfl rfl
      refine m_stp [9,1,4,5,10,11,12,49] (fS [1,4,5,10,11,12,49] [vU closes,vP b1,vP b4,vL g_v_ v_,vI (ln v_),vI v10,vG [vI y44.depth,vI y44.tokens,vB y44.bad]]) H46 rfl rfl rfl rfl (o_alloc [vI 0,vI 0,vF] (z:=vG [vI 0,vI 0,vF]) hd (by kernel_rfl) rfl) (fun _ => rfl) fun _ _ v H49 hq => ?_
      obtain ⟨b47,rfl,hq⟩:=hq
      replace hS : SH M X w [eB b47 [vI 0,vI 0,vF],eB b4 [vI v11,vI (w64 (v12 + 1)),vB z31],eB b20 [vU ((gi v_ v10).Token.Kind),vS (gi v_ v10).Token.Text,vI ((gi v_ v10).Token.Num),vS (gi v_ v10).Token.Unit,vB ((gi v_ v10).Token.Flag),.slice (g_v_.s (v10).toNat 0).a (((gi v_ v10).List_).length) (g_v_.s (v10).toNat 0).c],eB b1 [vI 0,vI 0,vF],eI tyValue v_ g_v_] _:=hS.join [] [0,1,2,3] rfl rfl hq
      have hd:=hS.hand [0] [1,2,3,4] rfl rfl
      refine m_stp0 [1,4,5,9,10,11,12] (fS [1,4,5,9,10,11,12] [vU closes,vP b1,vP b4,vP b47,vL g_v_ v_,vI (ln v_),vI v10]) H49 rfl rfl rfl (o_store [vI y44.depth,vI y44.tokens,vB y44.bad] H49 hd rfl rfl (by kernel_rfl) rfl rfl rfl) rfl fun _ _ H51 hq => ?_
      obtain ⟨_,hq⟩:=hq
      replace hS : SH M X w [eB b47 [vI y44.depth,vI y44.tokens,vB y44.bad],eB b4 [vI v11,vI (w64 (v12 + 1)),vB z31],eB b20 [vU ((gi v_ v10).Token.Kind),vS (gi v_ v10).Token.Text,vI ((gi v_ v10).Token.Num),vS (gi v_ v10).Token.Unit,vB ((gi v_ v10).Token.Flag),.slice (g_v_.s (v10).toNat 0).a (((gi v_ v10).List_).length) (g_v_.s (v10).toNat 0).c],eB b1 [vI 0,vI 0,vF],eI tyValue v_ g_v_] _:=hS.join [0] [1,2,3,4] rfl rfl hq
      apply wl_end rfl
      replace hS : SH M X w [eB b47 [vI y44.depth,vI y44.tokens,vB y44.bad],eB b4 [vI v11,vI (w64 (v12 + 1)),vB z31],eB b1 [vI 0,vI 0,vF],eI tyValue v_ g_v_] _:=hS.sel [0,1,3,4] rfl
      apply wl_start
      obtain ⟨x52,hx52,hm⟩:=letE hm
      obtain ⟨x53,hx53,hm⟩:=letE hm
      refine wl_batch 0 19 [(vI v11),(vI y44.depth),(vI (w64 (v12 + 1))),(vI y44.tokens),(vB z31),(vB y44.bad)] [1,4,5,10,11,12,68] (fS [1,4,5,10,11,12,68] [vU closes,vP b1,vP b4,vL g_v_ v_,vI (ln v_),vI v10,vG [vI x52,vI x53,vB (cond z31 true y44.bad)]]) [rA b4 0 (vI v11),rA b47 0 (vI y44.depth),rA b4 1 (vI (w64 (v12 + 1))),rA b47 1 (vI y44.tokens),rA b4 2 (vB z31),fun wz => (z31 = false ∧ True → V.at1 ⟨b47,2,none⟩ (vB y44.bad) wz)] H51 (by decide) (by subst hx52 hx53; kernel_rfl) ⟨((hS.bk 1 rfl).at1 rfl),((hS.bk 0 rfl).at1 rfl),((hS.bk 1 rfl).at1 rfl),((hS.bk 0 rfl).at1 rfl),((hS.bk 1 rfl).at1 rfl),fun hg => (hS.bk 0 rfl).at1 rfl,trivial⟩ fun _ _ H55 hb => ?_
      replace hS:=hS.below hb
      have hd:=hS.hand [1] [0,2,3] rfl rfl
      refine m_stp0 [1,4,5,10,11,12] (fS [1,4,5,10,11,12] [vU closes,vP b1,vP b4,vL g_v_ v_,vI (ln v_),vI v10]) H55 rfl rfl rfl (o_store [vI x52,vI x53,vB (cond z31 true y44.bad)] H55 hd rfl rfl (by kernel_rfl) rfl rfl rfl) rfl fun _ _ H57 hq => ?_
      obtain ⟨_,hq⟩:=hq
      replace hS : SH M X w [eB b4 [vI x52,vI x53,vB (cond z31 true y44.bad)],eB b47 [vI y44.depth,vI y44.tokens,vB y44.bad],eB b1 [vI 0,vI 0,vF],eI tyValue v_ g_v_] _:=hS.join [1] [0,2,3] rfl rfl hq
      apply wl_end rfl
      replace hS : SH M X w [eB b4 [vI x52,vI x53,vB (cond z31 true y44.bad)],eB b1 [vI 0,vI 0,vF],eI tyValue v_ g_v_] _:=hS.sel [0,2,3] rfl
      obtain rfl:=someE hm
      exact ⟨FrG.keep (ks:=[1,4,5,10,11,12]) H57 (by kernel_rfl),hS⟩
    ·rintro _ _ ⟨H,hS⟩
     refine w_reg [] [1,4,5,10,11,12] (fS [1,4,5,10,11,12] [vU closes,vP b1,vP b4,vL g_v_ v_,vI (ln v_),vI (w64 (v10 + 1))]) [] H (by kernel_rfl) trivial fun _ _ H61 hb => ?_
     replace hS:=hS.below hb
     exact ⟨_,Nat.lt_succ_self _,w64 (v10 + 1),z16.2.2,z16.1,z16.2.1,hm,FrG.keep (ks:=[1,4,5,10,11,12]) H61 (by kernel_rfl),hS⟩
  ·rintro _ _ ⟨H,hS⟩
   replace hS : SH M X w [eB b4 [vI z7.1,vI z7.2.1,vB z7.2.2],eB b1 [vI 0,vI 0,vF]] _:=hS.sel [0,1] rfl
   apply w_seq
   apply wl_start
   refine wl_batch 0 1 [(vG [vI z7.1,vI z7.2.1,vB z7.2.2])] [4,70] (fS [4,70] [vP b1,vG [vI z7.1,vI z7.2.1,vB z7.2.2]]) [rN b4 0 [vI z7.1,vI z7.2.1,vB z7.2.2]] H (by decide) (by kernel_rfl) ⟨((hS.bk 0 rfl).atD rfl),trivial⟩ fun _ _ H66 hb => ?_
   replace hS:=hS.below hb
   have hd:=hS.hand [1] [0] rfl rfl
   refine m_stp0 [4] [(4,[],vP b1)] H66 rfl rfl rfl (o_store [vI z7.1,vI z7.2.1,vB z7.2.2] H66 hd rfl rfl (by kernel_rfl) rfl rfl rfl) rfl fun _ _ H68 hq => ?_
   obtain ⟨_,hq⟩:=hq
   replace hS : SH M X w [eB b1 [vI z7.1,vI z7.2.1,vB z7.2.2],eB b4 [vI z7.1,vI z7.2.1,vB z7.2.2]] _:=hS.join [1] [0] rfl rfl hq
   apply wl_end rfl
   replace hS : SH M X w [eB b1 [vI z7.1,vI z7.2.1,vB z7.2.2]] _:=hS.sel [0] rfl
   apply w_ret
   obtain rfl:=someE hm
   exact retR1 H68 rfl (oneRes_agg rfl (hS.bk 0 rfl) Tryz.underlying107 rfl (by kernel_rfl)) ⟨_,rfl,rfl,(hS.sel [] rfl)⟩
theorem nest_look_ok {g_v_ : Gh} (m : Nat) (v_ : List TValue) (closes : Int) (r : Tnest_found) (hm : nest_look m v_ closes = some r) (w : World) (hL : S0 F0 [eI tyValue v_ g_v_] w ∧ fpl [eI tyValue v_ g_v_] = []) : RetB Tryz.prog 60 ⟨[vL g_v_ v_,vU closes]⟩ (vG [vI r.depth,vI r.tokens,vB r.bad]) w:=retB_of hL (Tryz.call60 _) (fun w' h => nest_look_w m   m g_v_ F0 v_ closes r hm w' h)

theorem nest_Check_w {g_v_ : Gh} (M : Av) (m : Nat) (v_ : List TValue) (r : Int) (hm : nest_Check m v_ = some r) (w : World) (hS : S0 M [eI tyValue v_ g_v_] w) : Calls Tryz.prog 34 ⟨[vL g_v_ v_]⟩ w (fun e w' => ∃ v,e = .returned v ∧ v = vI r ∧ SH M (fpl [eI tyValue v_ g_v_]) w [] w'):=by
 rw [nest_Check] at hm
 have hS0 : SH M (fpl [eI tyValue v_ g_v_]) w [eI tyValue v_ g_v_] w:=hS
 generalize hX : fpl [eI tyValue v_ g_v_] = X at hS0 ⊢
 clear hS hX
 have hS:=hS0
 clear hS0
 refine calls_entryP Tryz.func34 rfl Tryz.ntmps34 rfl fun _ H => ?_
 refine s_reg [] [0] [(0,[],vL g_v_ v_)] [] H (by kernel_rfl) trivial fun _ _ H2 hb => ?_
 replace hS:=hS.below hb
 apply w_seq
 apply w_seq
 apply wl_start
 obtain ⟨y3,hy3,hm⟩:=bindE hm
 refine wl_batch 0 2 [(vG [vI y3.depth,vI y3.tokens,vB y3.bad])] [5] [(5,[],vG [vI y3.depth,vI y3.tokens,vB y3.bad])] [rB 60 [vL g_v_ v_,vU 0] (vG [vI y3.depth,vI y3.tokens,vB y3.bad])] H2 (by decide) (by kernel_rfl) ⟨(nest_look_ok (g_v_:=g_v_) m _ _ _ hy3 _ (s0im s0nil (hS.im 0 rfl))),trivial⟩ fun _ _ H5 hb => ?_
 replace hS:=hS.below hb
 have hd:=hS.hand [] [0] rfl rfl
 refine m_stp [3,5] [(5,[],vG [vI y3.depth,vI y3.tokens,vB y3.bad])] H5 rfl rfl rfl rfl (o_alloc [vI 0,vI 0,vF] (z:=vG [vI 0,vI 0,vF]) hd (by kernel_rfl) rfl) (fun _ => rfl) fun _ _ v H8 hq => ?_
 obtain ⟨b6,rfl,hq⟩:=hq
 replace hS : SH M X w [eB b6 [vI 0,vI 0,vF],eI tyValue v_ g_v_] _:=hS.join [] [0] rfl rfl hq
 have hd:=hS.hand [0] [1] rfl rfl
 refine m_stp0 [3] [(3,[],vP b6)] H8 rfl rfl rfl (o_store [vI y3.depth,vI y3.tokens,vB y3.bad] H8 hd rfl rfl (by kernel_rfl) rfl rfl rfl) rfl fun _ _ H10 hq => ?_
 obtain ⟨_,hq⟩:=hq
 replace hS : SH M X w [eB b6 [vI y3.depth,vI y3.tokens,vB y3.bad],eI tyValue v_ g_v_] _:=hS.join [0] [1] rfl rfl hq
 apply wl_end rfl
 replace hS : SH M X w [eB b6 [vI y3.depth,vI y3.tokens,vB y3.bad]] _:=hS.sel [0] rfl
 apply w_block
 refine s_reg [(vI y3.depth)] [3,6] (fS [3,6] [vP b6,vB (decide (16 < y3.depth))]) [rA b6 0 (vI y3.depth)] H10 (by kernel_rfl) ⟨((hS.bk 0 rfl).at1 rfl),trivial⟩ fun _ _ H12 hb => ?_
 replace hS:=hS.below hb
 refine w_if H12 rfl (fun hc => ?c27) (fun hc => ?_)
 case c27 =>
  replace hm:=bT hc hm
  refine s_reg [] [2] [(2,[],vI 20)] [] H12 (by kernel_rfl) trivial fun _ _ H14 hb => ?_
  replace hS:=hS.below hb
  replace hS : SH M X w [] _:=hS.sel [] rfl
  apply w_ret
  obtain rfl:=someE hm
  exact retR1 H14 rfl rfl ⟨_,rfl,rfl,(hS.sel [] rfl)⟩
 replace hm:=bF hc hm
 refine s_reg [(vI y3.tokens)] [3,10] (fS [3,10] [vP b6,vB (decide (1500 < y3.tokens))]) [rA b6 1 (vI y3.tokens)] H12 (by kernel_rfl) ⟨((hS.bk 0 rfl).at1 rfl),trivial⟩ fun _ _ H16 hb => ?_
 replace hS:=hS.below hb
 refine w_if H16 rfl (fun hc => ?c26) (fun hc => ?_)
 case c26 =>
  replace hm:=bT hc hm
  refine s_reg [] [2] [(2,[],vI 4)] [] H16 (by kernel_rfl) trivial fun _ _ H18 hb => ?_
  replace hS:=hS.below hb
  replace hS : SH M X w [] _:=hS.sel [] rfl
  apply w_ret
  obtain rfl:=someE hm
  exact retR1 H18 rfl rfl ⟨_,rfl,rfl,(hS.sel [] rfl)⟩
 replace hm:=bF hc hm
 refine s_reg [(vB y3.bad)] [14] [(14,[],vB y3.bad)] [rA b6 2 (vB y3.bad)] H16 (by kernel_rfl) ⟨((hS.bk 0 rfl).at1 rfl),trivial⟩ fun _ _ H20 hb => ?_
 replace hS:=hS.below hb
 replace hS : SH M X w [] _:=hS.sel [] rfl
 refine w_if H20 rfl (fun hc => ?c25) (fun hc => ?_)
 case c25 =>
  replace hm:=bT hc hm
  refine s_reg [] [2] [(2,[],vI 8)] [] H20 (by kernel_rfl) trivial fun _ _ H22 hb => ?_
  replace hS:=hS.below hb
  apply w_ret
  obtain rfl:=someE hm
  exact retR1 H22 rfl rfl ⟨_,rfl,rfl,(hS.sel [] rfl)⟩
 replace hm:=bF hc hm
 apply w_skip
 refine s_reg [] [2] [(2,[],vI 0)] [] H20 (by kernel_rfl) trivial fun _ _ H24 hb => ?_
 replace hS:=hS.below hb
 apply w_ret
 obtain rfl:=someE hm
 exact retR1 H24 rfl rfl ⟨_,rfl,rfl,(hS.sel [] rfl)⟩
theorem nest_Check_ok {g_v_ : Gh} (m : Nat) (v_ : List TValue) (r : Int) (hm : nest_Check m v_ = some r) (w : World) (hL : S0 F0 [eI tyValue v_ g_v_] w ∧ fpl [eI tyValue v_ g_v_] = []) : RetB Tryz.prog 34 ⟨[vL g_v_ v_]⟩ (vI r) w:=retB_of hL (Tryz.call34 _) (fun w' h => nest_Check_w F0 m   v_ r hm w' h)

def tyLong : Ty TLong where
  z:=3
  enc:=fun x g => [vS x.Name,.slice (g 0).a x.Value.length (g 0).c,vS x.Whole]
  inn:=fun M w x g => SlG tyValue M w x.Value (g 0) ∧ True
  len:=fun _ _ => rfl
  one:=fun _ _ => rfl
  kp:=fun h k hX => ⟨h.1.kp k hX,trivial⟩
  anti:=fun h hM => ⟨h.1.anti hM,trivial⟩
  fresh:=fun h => ⟨h.1.fresh,trivial⟩
theorem tyLong_i0 {M : Av} {w : World} {x : TLong} {g : Nat → Gh} (h : tyLong.inn M w x g) : SlG tyValue M w x.Value (g 0):=(show SlG tyValue M w x.Value (g 0) ∧ True from h).1
theorem tyLong_mk {M : Av} {w : World} {x : TLong} {g : Nat → Gh} (h0 : SlG tyValue M w x.Value (g 0)) : tyLong.inn M w x g:=show SlG tyValue M w x.Value (g 0) ∧ True from ⟨h0,trivial⟩
theorem slices_Index_string_string_w {g_s : Gh} (M : Av) (m : Nat) (s : List Str) (v_ : Str) (r : Int) (hm : slices_Index_string_string m s v_ = some r) (w : World) (hS : S0 M [eI tS s g_s] w) : Calls Tryz.prog 35 ⟨[vL g_s s,vS v_]⟩ w (fun e w' => ∃ v,e = .returned v ∧ v = vI r ∧ SH M (fpl [eI tS s g_s]) w [] w'):=by
 rw [slices_Index_string_string] at hm
 have hS0 : SH M (fpl [eI tS s g_s]) w [eI tS s g_s] w:=hS
 generalize hX : fpl [eI tS s g_s] = X at hS0 ⊢
 clear hS hX
 have hS:=hS0
 clear hS0
 refine calls_entryP Tryz.func35 rfl Tryz.ntmps35 rfl fun _ H => ?_
 refine s_reg [] [0,1] (fS [0,1] [vL g_s s,vS v_]) [] H (by kernel_rfl) trivial fun _ _ H2 hb => ?_
 replace hS:=hS.below hb
 obtain ⟨z3,hz,hm_z3⟩:=bindE hm
 refine w_cut (fun a' w' => ∃ s_z3 : Unit,z3 = Sum.inr s_z3 ∧ Fr 19 [] a' ∧ SH M X w [eI tS s g_s] w') ?_ ?_
 ·replace hm:=hz
  refine s_reg [] [0,1,7,8] (fS [0,1,7,8] [vL g_s s,vS v_,vI (ln s),vI 0]) [] H2 (by kernel_rfl) trivial fun _ _ H5 hb => ?_
  replace hS:=hS.below hb
  apply w_block
  refine w_loop (fun kk a' w' => ∃ (v6 : Int),slices_Index_string_string_L1 m s v_ kk v6 = some _ ∧ Fr 19 (fS [0,1,7,8] [vL g_s s,vS v_,vI (ln s),vI v6]) a' ∧ SH M X w [eI tS s g_s] w') ⟨_,0,hm,FrG.keep (ks:=[0,1,7,8]) H5 (by kernel_rfl),hS⟩ ?_
  clear hm H5 hS
  rintro kk _ _ ⟨v6,hm,H,hS⟩
  cases kk with
  | zero => exact noneE hm
  | succ kk =>
   rw [slices_Index_string_string_L1] at hm
   refine s_reg [] [0,1,7,8,9] (fS [0,1,7,8,9] [vL g_s s,vS v_,vI (ln s),vI v6,vB (decide (v6 < (ln s)))]) [] H (by kernel_rfl) trivial fun _ _ H8 hb => ?_
   replace hS:=hS.below hb
   apply w_seq
   refine w_if H8 rfl (fun hc => ?_) (fun hc => ?c19)
   case c19 =>
    replace hm:=bF hc hm
    apply w_exit rfl
    obtain rfl:=someE hm
    exact ⟨_,rfl,FrG.keep (ks:=[]) H8 (by kernel_rfl),hS⟩
   replace hm:=bT hc hm
   apply w_skip
   apply w_seq
   apply w_block
   refine s_reg [] [0,1,5,7,8] (fS [0,1,5,7,8] [vL g_s s,vS v_,vI v6,vI (ln s),vI v6]) [] H8 (by kernel_rfl) trivial fun _ _ H10 hb => ?_
   replace hS:=hS.below hb
   obtain ⟨ho11,hm⟩:=chkE hm
   refine s_reg [(vS (gi s v6))] [0,1,5,7,8,16] (fS [0,1,5,7,8,16] [vL g_s s,vS v_,vI v6,vI (ln s),vI v6,vB (v_ == (gi s v6))]) [fun _ => oka g_s.a ∧ 0 ≤ v6 ∧ v6 < ln s,fun wz => V.at1 ⟨ab g_s.a,ao g_s.a + (v6).toNat * 1,none⟩ (vS (gi s v6)) wz] H10 (by kernel_rfl) ⟨((hS.im 0 rfl).oki ho11),((hS.im 0 rfl).at1 ho11 0 rfl),trivial⟩ fun _ _ H13 hb => ?_
   replace hS:=hS.below hb
   refine w_if H13 rfl (fun hc => ?_) (fun hc => ?c18)
   case c18 =>
    replace hm:=bF hc hm
    apply w_skip
    refine w_reg [] [0,1,7,8] (fS [0,1,7,8] [vL g_s s,vS v_,vI (ln s),vI (w64 (v6 + 1))]) [] H13 (by kernel_rfl) trivial fun _ _ H17 hb => ?_
    replace hS:=hS.below hb
    exact ⟨_,Nat.lt_succ_self _,w64 (v6 + 1),hm,FrG.keep (ks:=[0,1,7,8]) H17 (by kernel_rfl),hS⟩
   replace hm:=bT hc hm
   refine s_reg [] [4] [(4,[],vI v6)] [] H13 (by kernel_rfl) trivial fun _ _ H15 hb => ?_
   replace hS:=hS.below hb
   apply w_ret
   obtain rfl:=someE hm
   have hm:=hm_z3
   obtain rfl:=someE hm
   exact retR1 H15 rfl rfl ⟨_,rfl,rfl,(hS.sel [] rfl)⟩
 ·rintro _ _ ⟨s_z3,hz,H,hS⟩
  subst hz
  replace hm:=sumR hm_z3
  replace hS : SH M X w [] _:=hS.sel [] rfl
  refine s_reg [] [4] [(4,[],vI (-1))] [] H (by kernel_rfl) trivial fun _ _ H22 hb => ?_
  replace hS:=hS.below hb
  apply w_ret
  obtain rfl:=someE hm
  exact retR1 H22 rfl rfl ⟨_,rfl,rfl,(hS.sel [] rfl)⟩
theorem slices_Index_string_string_ok {g_s : Gh} (m : Nat) (s : List Str) (v_ : Str) (r : Int) (hm : slices_Index_string_string m s v_ = some r) (w : World) (hL : S0 F0 [eI tS s g_s] w ∧ fpl [eI tS s g_s] = []) : RetB Tryz.prog 35 ⟨[vL g_s s,vS v_]⟩ (vI r) w:=retB_of hL (Tryz.call35 _) (fun w' h => slices_Index_string_string_w F0 m   s v_ r hm w' h)

theorem slices_Contains_string_string_w {g_s : Gh} (M : Av) (m : Nat) (s : List Str) (v_ : Str) (r : Bool) (hm : slices_Contains_string_string m s v_ = some r) (w : World) (hS : S0 M [eI tS s g_s] w) : Calls Tryz.prog 51 ⟨[vL g_s s,vS v_]⟩ w (fun e w' => ∃ v,e = .returned v ∧ v = vB r ∧ SH M (fpl [eI tS s g_s]) w [] w'):=by
 rw [slices_Contains_string_string] at hm
 have hS0 : SH M (fpl [eI tS s g_s]) w [eI tS s g_s] w:=hS
 generalize hX : fpl [eI tS s g_s] = X at hS0 ⊢
 clear hS hX
 have hS:=hS0
 clear hS0
 refine calls_entryP Tryz.func51 rfl Tryz.ntmps51 rfl fun _ H => ?_
 refine s_reg [] [0,1] (fS [0,1] [vL g_s s,vS v_]) [] H (by kernel_rfl) trivial fun _ _ H2 hb => ?_
 replace hS:=hS.below hb
 obtain ⟨y3,hy3,hm⟩:=bindE hm
 refine s_reg [(vI y3)] [4] [(4,[],vB (decide (0 ≤ y3)))] [rB 35 [vL g_s s,vS v_] (vI y3)] H2 (by kernel_rfl) ⟨(slices_Index_string_string_ok (g_s:=g_s) m _ _ _ hy3 _ (s0im s0nil (hS.im 0 rfl))),trivial⟩ fun _ _ H5 hb => ?_
 replace hS:=hS.below hb
 replace hS : SH M X w [] _:=hS.sel [] rfl
 apply w_ret
 obtain rfl:=someE hm
 exact retR1 H5 rfl rfl ⟨_,rfl,rfl,(hS.sel [] rfl)⟩
theorem slices_Contains_string_string_ok {g_s : Gh} (m : Nat) (s : List Str) (v_ : Str) (r : Bool) (hm : slices_Contains_string_string m s v_ = some r) (w : World) (hL : S0 F0 [eI tS s g_s] w ∧ fpl [eI tS s g_s] = []) : RetB Tryz.prog 51 ⟨[vL g_s s,vS v_]⟩ (vB r) w:=retB_of hL (Tryz.call51 _) (fun w' h => slices_Contains_string_string_w F0 m   s v_ r hm w' h)

theorem short_of_w  (M : Av) (m : Nat) (name_ : Str) (r : List Str) (hm : short_of m name_ = some r) (w : World) (hS : S0 M [] w) : Calls Tryz.prog 30 ⟨[vS name_]⟩ w (fun e w' => ∃ v,e = .returned v ∧ ∃ (g901 : Gh),v = vL g901 r ∧ SH M (fpl []) w [eO 9 tS r g901] w'):=by
 rw [short_of] at hm
 have hS0 : SH M (fpl []) w [] w:=hS
 generalize hX : fpl [] = X at hS0 ⊢
 clear hS hX
 have hS:=hS0
 clear hS0
 refine calls_entryP Tryz.func30 rfl Tryz.ntmps30 rfl fun _ H => ?_
 refine s_reg [] [0] [(0,[],vS name_)] [] H (by kernel_rfl) trivial fun _ _ H2 hb => ?_
 replace hS:=hS.below hb
 apply w_seq
 apply w_block
 apply w_seq
 apply wl_start
 obtain ⟨y3,hy3,hm⟩:=letE hm
 have hd:=hS.hand [] [] rfl rfl
 refine m_stp [7,0] [(0,[],vS name_)] H2 rfl rfl rfl rfl (o_callx H2 rfl rfl (short_Names_ok _ hy3.symm _ _ hd)) (fun _ => rfl) fun _ _ v H7 hq => ?_
 obtain ⟨g4,rfl,hq⟩:=hq
 replace hS : SH M X w [eO 9 tS y3 g4] _:=hS.join [] [] rfl rfl hq
 obtain ⟨y8,hy8,hm⟩:=bindE hm
 refine wl_batch 1 5 [(vB y8)] [0,6] (fS [0,6] [vS name_,vB (!y8)]) [rB 51 [vL g4 y3,vS name_] (vB y8)] H7 (by decide) (by kernel_rfl) ⟨(slices_Contains_string_string_ok (g_s:=g4) 64 _ _ _ hy8 _ (s0im s0nil (hS.osl 0 rfl))),trivial⟩ fun _ _ H10 hb => ?_
 replace hS:=hS.below hb
 apply wl_end rfl
 replace hS : SH M X w [] _:=hS.sel [] rfl
 refine w_if H10 rfl (fun hc => ?c70) (fun hc => ?_)
 case c70 =>
  replace hm:=bT hc hm
  refine s_reg [] [2] [(2,[],vO)] [] H10 (by kernel_rfl) trivial fun _ _ H12 hb => ?_
  replace hS:=hS.below hb
  apply w_ret
  obtain rfl:=someE hm
  replace hS : SH M X w [eO 9 tS ([] : List Str) (.nil)] _:=hS.addNil 9 tS
  exact retR1 H12 rfl rfl ⟨_,rfl,Gh.nil,rfl,(hS.sel [0] rfl)⟩
 replace hm:=bF hc hm
 obtain ⟨x14,hx14,hm⟩:=letE hm
 refine s_reg [] [0,11] (fS [0,11] [vS name_,vB x14]) [] H10 (by subst hx14; kernel_rfl) trivial fun _ _ H16 hb => ?_
 replace hS:=hS.below hb
 refine w_if H16 rfl (fun hc => ?c69) (fun hc => ?_)
 case c69 =>
  replace hm:=bT hc hm
  apply w_seq
  apply wl_start
  obtain ⟨ho17,hm⟩:=chkE hm
  refine wl_batch 0 2 [] [15] [(15,[],vS (name_ ++ [45,99,111,108,111,114]))] [fun _ => ln name_ + ln [45,99,111,108,111,114] ≤ 9223372036854775807] H16 (by decide) (by kernel_rfl) ⟨ho17,trivial⟩ fun _ _ H19 hb => ?_
  replace hS:=hS.below hb
  have hd:=hS.hand [] [] rfl rfl
  refine m_stp [16] [] H19 rfl rfl rfl rfl (o_lit (T:=tS) (E:=9) (zv:=vN) [vS (name_ ++ [45,99,111,108,111,114])] ([name_ ++ [45,99,111,108,111,114]] : List Str) [gL []] _ H19 hd rfl (by kernel_rfl) (by kernel_rfl) (by kernel_rfl) (by kernel_rfl) (by kernel_rfl) (by kernel_rfl) (by kernel_rfl) rfl (InnL.cons trivial InnL.nil)) (fun _ => rfl) fun _ _ v H23 hq => ?_
  obtain ⟨g20,rfl,hq⟩:=hq
  replace hS : SH M X w [eO 9 tS ([name_ ++ [45,99,111,108,111,114]] : List Str) g20] _:=hS.join [] [] rfl rfl hq
  refine wl_batch 3 4 [] [2] [(2,[],vK g20 1)] [] H23 (by decide) (by kernel_rfl) trivial fun _ _ H25 hb => ?_
  replace hS:=hS.below hb
  apply wl_end rfl
  apply w_ret
  obtain rfl:=someE hm
  exact retR1 H25 rfl rfl ⟨_,rfl,g20,rfl,(hS.sel [0] rfl)⟩
 replace hm:=bF hc hm
 apply w_skip
 refine s_reg [] [0,3] (fS [0,3] [vS name_,vO]) [] H16 (by kernel_rfl) trivial fun _ _ H27 hb => ?_
 replace hS:=hS.below hb
 obtain ⟨z28,hz,hm⟩:=bindE hm
 refine w_cut (fun a' w' => ∃ (g64 : Gh),Fr 32 [(3,[],vL g64 z28)] a' ∧ SH M X w [eO 9 tS z28 g64] w') ?_ ?_
 ·replace hm:=hz
  apply w_seq
  apply wl_start
  have hd:=hS.hand [] [] rfl rfl
  refine m_stp [17,0,3] (fS [0,3] [vS name_,vO]) H27 rfl rfl rfl rfl (o_lit (T:=tS) (E:=9) (zv:=vN) [vS [116,111,112],vS [114,105,103,104,116],vS [98,111,116,116,111,109],vS [108,101,102,116]] kL1 [gL [],gL [],gL [],gL []] _ H27 hd rfl (by kernel_rfl) (by kernel_rfl) (by kernel_rfl) (by kernel_rfl) (by kernel_rfl) (by kernel_rfl) (by kernel_rfl) rfl (InnL.cons trivial (InnL.cons trivial (InnL.cons trivial (InnL.cons trivial InnL.nil))))) (fun _ => rfl) fun _ _ v H32 hq => ?_
  obtain ⟨g29,rfl,hq⟩:=hq
  replace hS : SH M X w [eO 9 tS kL1 g29] _:=hS.join [] [] rfl rfl hq
  refine wl_batch 1 3 [] [0,3,17,18,19] (fS [0,3,17,18,19] [vS name_,vO,vK g29 4,vI 4,vI 0]) [] H32 (by decide) (by kernel_rfl) trivial fun _ _ H34 hb => ?_
  replace hS:=hS.below hb
  apply wl_end rfl
  apply w_block
  replace hS : SH M X w [eO 9 tS ([] : List Str) (.nil),eO 9 tS kL1 g29] _:=hS.addNil 9 tS
  refine w_loop (fun kk a' w' => ∃ (v36 : List Str) (v38 : Int) (g37 : Gh),short_of_L1 m name_ kk v36 v38 = some _ ∧ Fr 32 (fS [0,17,18,3,19] [vS name_,vK g29 4,vI 4,vL g37 v36,vI v38]) a' ∧ SH M X w [eO 9 tS v36 g37,eO 9 tS kL1 g29] w') ⟨_,([] : List Str),0,Gh.nil,hm,FrG.keep (ks:=[0,17,18,3,19]) H34 (by kernel_rfl),hS⟩ ?_
  clear hm H34 hS
  rintro kk _ _ ⟨v36,v38,g37,hm,H,hS⟩
  cases kk with
  | zero => exact noneE hm
  | succ kk =>
   rw [short_of_L1] at hm
   refine s_reg [] [0,3,17,18,19,20] (fS [0,3,17,18,19,20] [vS name_,vL g37 v36,vK g29 4,vI 4,vI v38,vB (decide (v38 < 4))]) [] H (by kernel_rfl) trivial fun _ _ H40 hb => ?_
   replace hS:=hS.below hb
   apply w_seq
   refine w_if H40 rfl (fun hc => ?_) (fun hc => ?c62)
   case c62 =>
    replace hm:=bF hc hm
    apply w_exit rfl
    obtain rfl:=someE hm
    replace hS : SH M X w [eO 9 tS v36 g37] _:=hS.sel [0] rfl
    exact ⟨g37,FrG.keep (ks:=[3]) H40 (by kernel_rfl),hS⟩
   replace hm:=bT hc hm
   apply w_skip
   apply w_seq
   apply w_block
   obtain ⟨ho41,hm⟩:=chkE hm
   obtain ⟨x42,hx42,hm⟩:=letE hm
   refine s_reg [(vS (gi kL1 v38))] [0,3,5,17,18,19] (fS [0,3,5,17,18,19] [vS name_,vL g37 v36,vS x42,vK g29 4,vI 4,vI v38]) [fun _ => oka g29.a ∧ 0 ≤ v38 ∧ v38 < ln kL1,fun wz => V.at1 ⟨ab g29.a,ao g29.a + (v38).toNat * 1,none⟩ (vS (gi kL1 v38)) wz] H40 (by subst hx42; kernel_rfl) ⟨((hS.osl 1 rfl).oki ho41),((hS.osl 1 rfl).at1 ho41 0 rfl),trivial⟩ fun _ _ H44 hb => ?_
   replace hS:=hS.below hb
   apply wl_start
   obtain ⟨ho45,hm⟩:=chkE hm
   obtain ⟨ho46,hm⟩:=chkE hm
   refine wl_batch 0 5 [] [0,17,18,19,23,27] (fS [0,17,18,19,23,27] [vS name_,vK g29 4,vI 4,vI v38,vL g37 v36,vS ((name_ ++ [45]) ++ x42)]) [fun _ => ln name_ + ln [45] ≤ 9223372036854775807,fun _ => ln (name_ ++ [45]) + ln x42 ≤ 9223372036854775807] H44 (by decide) (by kernel_rfl) ⟨ho45,ho46,trivial⟩ fun _ _ H48 hb => ?_
   replace hS:=hS.below hb
   have hd:=hS.hand [] [0,1] rfl rfl
   refine m_stp [28,0,17,18,19,23] (fS [0,17,18,19,23] [vS name_,vK g29 4,vI 4,vI v38,vL g37 v36]) H48 rfl rfl rfl rfl (o_lit (T:=tS) (E:=9) (zv:=vN) [vS ((name_ ++ [45]) ++ x42)] ([(name_ ++ [45]) ++ x42] : List Str) [gL []] _ H48 hd rfl (by kernel_rfl) (by kernel_rfl) (by kernel_rfl) (by kernel_rfl) (by kernel_rfl) (by kernel_rfl) (by kernel_rfl) rfl (InnL.cons trivial InnL.nil)) (fun _ => rfl) fun _ _ v H52 hq => ?_
   obtain ⟨g49,rfl,hq⟩:=hq
   replace hS : SH M X w [eO 9 tS ([(name_ ++ [45]) ++ x42] : List Str) g49,eO 9 tS v36 g37,eO 9 tS kL1 g29] _:=hS.join [] [0,1] rfl rfl hq
   obtain ⟨ho53,hm⟩:=chkE hm
   obtain ⟨q54,hq54,hm⟩:=letE hm
   have hd:=hS.hand [1,0] [2] rfl rfl
   refine m_stp [29,0,17,18,19] (fS [0,17,18,19] [vS name_,vK g29 4,vI 4,vI v38]) H52 rfl rfl rfl rfl (o_app2 (T:=tS) (zv:=vN) (g1:=g37) (g2:=g49) (l1:=v36) (l2:=([(name_ ++ [45]) ++ x42] : List Str)) q54 hq54.symm H52 hd rfl rfl rfl rfl rfl rfl rfl (by kernel_rfl) (by kernel_rfl) rfl rfl ho53) (fun _ => rfl) fun _ _ v H56 hq => ?_
   obtain ⟨g57,rfl,hq⟩:=hq
   replace hS : SH M X w [eO 9 tS q54 g57,eO 9 tS ([(name_ ++ [45]) ++ x42] : List Str) g49,eO 9 tS kL1 g29] _:=hS.join [1,0] [2] rfl rfl hq
   refine wl_batch 7 8 [] [0,3,17,18,19] (fS [0,3,17,18,19] [vS name_,vL g57 q54,vK g29 4,vI 4,vI v38]) [] H56 (by decide) (by kernel_rfl) trivial fun _ _ H59 hb => ?_
   replace hS:=hS.below hb
   apply wl_end rfl
   replace hS : SH M X w [eO 9 tS q54 g57,eO 9 tS kL1 g29] _:=hS.sel [0,2] rfl
   refine w_reg [] [0,3,17,18,19] (fS [0,3,17,18,19] [vS name_,vL g57 q54,vK g29 4,vI 4,vI (w64 (v38 + 1))]) [] H59 (by kernel_rfl) trivial fun _ _ H61 hb => ?_
   replace hS:=hS.below hb
   exact ⟨_,Nat.lt_succ_self _,q54,w64 (v38 + 1),g57,hm,FrG.keep (ks:=[0,17,18,3,19]) H61 (by kernel_rfl),hS⟩
 ·rintro _ _ ⟨g64,H,hS⟩
  refine s_reg [] [2] [(2,[],vL g64 z28)] [] H (by kernel_rfl) trivial fun _ _ H67 hb => ?_
  replace hS:=hS.below hb
  apply w_ret
  obtain rfl:=someE hm
  exact retR1 H67 rfl rfl ⟨_,rfl,g64,rfl,(hS.sel [0] rfl)⟩
theorem short_of_ok  (m : Nat) (name_ : Str) (r : List Str) (hm : short_of m name_ = some r) (M : Av) (w : World) (hS : S0 M [] w) : DoesX Tryz.prog 30 ⟨[vS name_]⟩ w (fun v w' => ∃ (g901 : Gh),v = vL g901 r ∧ SH M (fpl []) w [eO 9 tS r g901] w'):=⟨Tryz.call30 _,short_of_w M m   name_ r hm w hS⟩

theorem stringslite_HasPrefix_w  (M : Av) (s : Str) (prefix_ : Str) (r : Bool) (hm : stringslite_HasPrefix s prefix_ = some r) (w : World) (hS : S0 M [] w) : Calls Tryz.prog 75 ⟨[vS s,vS prefix_]⟩ w (fun e w' => ∃ v,e = .returned v ∧ v = vB r ∧ SH M (fpl []) w [] w'):=by
 rw [stringslite_HasPrefix] at hm
 have hS0 : SH M (fpl []) w [] w:=hS
 generalize hX : fpl [] = X at hS0 ⊢
 clear hS hX
 have hS:=hS0
 clear hS0
 refine calls_entryP Tryz.func75 rfl Tryz.ntmps75 rfl fun _ H => ?_
 refine s_reg [] [0,1] (fS [0,1] [vS s,vS prefix_]) [] H (by kernel_rfl) trivial fun _ _ H2 hb => ?_
 replace hS:=hS.below hb
 obtain ⟨ho3,hm⟩:=chkE hm
 obtain ⟨x4,hx4,hm⟩:=letE hm
 refine s_reg [] [4] [(4,[],vB x4)] [fun _ => ((decide ((ln prefix_) ≤ (ln s))) = true ∧ True → 0 ≤ (ln prefix_) ∧ (ln prefix_) ≤ ln s)] H2 (by subst hx4; kernel_rfl) ⟨fun hg => (ho3 hg.1),trivial⟩ fun _ _ H6 hb => ?_
 replace hS:=hS.below hb
 apply w_ret
 obtain rfl:=someE hm
 exact retR1 H6 rfl rfl ⟨_,rfl,rfl,(hS.sel [] rfl)⟩
theorem stringslite_HasPrefix_ok  (s : Str) (prefix_ : Str) (r : Bool) (hm : stringslite_HasPrefix s prefix_ = some r) : Ret Tryz.prog 75 ⟨[vS s,vS prefix_]⟩ (vB r):=retP_of (Tryz.call75 _) (fun w h => stringslite_HasPrefix_w F0   s prefix_ r hm w h)

theorem strings_HasPrefix_w  (M : Av) (s : Str) (prefix_ : Str) (r : Bool) (hm : strings_HasPrefix s prefix_ = some r) (w : World) (hS : S0 M [] w) : Calls Tryz.prog 52 ⟨[vS s,vS prefix_]⟩ w (fun e w' => ∃ v,e = .returned v ∧ v = vB r ∧ SH M (fpl []) w [] w'):=by
 rw [strings_HasPrefix] at hm
 have hS0 : SH M (fpl []) w [] w:=hS
 generalize hX : fpl [] = X at hS0 ⊢
 clear hS hX
 have hS:=hS0
 clear hS0
 refine calls_entryP Tryz.func52 rfl Tryz.ntmps52 rfl fun _ H => ?_
 refine s_reg [] [0,1] (fS [0,1] [vS s,vS prefix_]) [] H (by kernel_rfl) trivial fun _ _ H2 hb => ?_
 replace hS:=hS.below hb
 obtain ⟨y3,hy3,hm⟩:=bindE hm
 refine s_reg [(vB y3)] [4] [(4,[],vB y3)] [rB 75 [vS s,vS prefix_] (vB y3)] H2 (by kernel_rfl) ⟨((stringslite_HasPrefix_ok _ _ _ hy3).b),trivial⟩ fun _ _ H5 hb => ?_
 replace hS:=hS.below hb
 apply w_ret
 obtain rfl:=someE hm
 exact retR1 H5 rfl rfl ⟨_,rfl,rfl,(hS.sel [] rfl)⟩
theorem strings_HasPrefix_ok  (s : Str) (prefix_ : Str) (r : Bool) (hm : strings_HasPrefix s prefix_ = some r) : Ret Tryz.prog 52 ⟨[vS s,vS prefix_]⟩ (vB r):=retP_of (Tryz.call52 _) (fun w h => strings_HasPrefix_w F0   s prefix_ r hm w h)

theorem props_Custom_w  (M : Av) (name_ : Str) (r : Bool) (hm : props_Custom name_ = some r) (w : World) (hS : S0 M [] w) : Calls Tryz.prog 26 ⟨[vS name_]⟩ w (fun e w' => ∃ v,e = .returned v ∧ v = vB r ∧ SH M (fpl []) w [] w'):=by
 rw [props_Custom] at hm
 have hS0 : SH M (fpl []) w [] w:=hS
 generalize hX : fpl [] = X at hS0 ⊢
 clear hS hX
 have hS:=hS0
 clear hS0
 refine calls_entryP Tryz.func26 rfl Tryz.ntmps26 rfl fun _ H => ?_
 refine s_reg [] [0] [(0,[],vS name_)] [] H (by kernel_rfl) trivial fun _ _ H2 hb => ?_
 replace hS:=hS.below hb
 obtain ⟨y3,hy3,hm⟩:=bindE hm
 obtain ⟨x4,hx4,hm⟩:=letE hm
 refine s_reg [(vB y3)] [2] [(2,[],vB x4)] [rB 52 [vS name_,vS [45,45]] (vB y3)] H2 (by subst hx4; kernel_rfl) ⟨((strings_HasPrefix_ok _ _ _ hy3).b),trivial⟩ fun _ _ H6 hb => ?_
 replace hS:=hS.below hb
 apply w_ret
 obtain rfl:=someE hm
 exact retR1 H6 rfl rfl ⟨_,rfl,rfl,(hS.sel [] rfl)⟩
theorem props_Custom_ok  (name_ : Str) (r : Bool) (hm : props_Custom name_ = some r) : Ret Tryz.prog 26 ⟨[vS name_]⟩ (vB r):=retP_of (Tryz.call26 _) (fun w h => props_Custom_w F0   name_ r hm w h)

def tyColor : Ty TColor where
  z:=4
  enc:=fun x g => (cC x)
  inn:=fun _ _ _ _ => True
  len:=fun _ _ => rfl
  one:=fun _ _ => rfl
  kp:=fun _ _ _ => trivial
  anti:=fun _ _ => trivial
  fresh:=fun _ => trivial
def tyVal : Ty TVal where
  z:=7
  enc:=fun x g => (cV x)
  inn:=fun _ _ _ _ => True
  len:=fun _ _ => rfl
  one:=fun _ _ => rfl
  kp:=fun _ _ _ => trivial
  anti:=fun _ _ => trivial
  fresh:=fun _ => trivial
theorem props_word_w  (M : Av) (s : Str) (r : TVal) (hm : props_word s = r) (w : World) (hS : S0 M [] w) : Calls Tryz.prog 76 ⟨[vS s]⟩ w (fun e w' => ∃ v,e = .returned v ∧ v = vG (cV r) ∧ SH M (fpl []) w [] w'):=by
 rw [props_word] at hm
 have hS0 : SH M (fpl []) w [] w:=hS
 generalize hX : fpl [] = X at hS0 ⊢
 clear hS hX
 have hS:=hS0
 clear hS0
 refine calls_entryP Tryz.func76 rfl Tryz.ntmps76 rfl fun _ H => ?_
 apply w_seq
 apply wl_start
 have hd:=hS.hand [] [] rfl rfl
 refine m_stp [2,0] [(0,[],vS s)] H rfl rfl rfl rfl (o_alloc [vU 0,vN,vI 0,vU 0,vU 0,vU 0,vU 0] (z:=vG [vU 0,vN,vI 0,vU 0,vU 0,vU 0,vU 0]) hd (by kernel_rfl) rfl) (fun _ => rfl) fun _ _ v H3 hq => ?_
 obtain ⟨b1,rfl,hq⟩:=hq
 replace hS : SH M X w [eB b1 [vU 0,vN,vI 0,vU 0,vU 0,vU 0,vU 0]] _:=hS.join [] [] rfl rfl hq
 apply wl_end rfl
 apply w_seq
 apply wl_start
 refine wl_batch 0 2 [] [2,4] (fS [2,4] [vP b1,vG [vU 1,vS s,vI 0,vU 0,vU 0,vU 0,vU 0]]) [] H3 (by decide) (by kernel_rfl) trivial fun _ _ H5 hb => ?_
 replace hS:=hS.below hb
 have hd:=hS.hand [0] [] rfl rfl
 refine m_stp0 [2] [(2,[],vP b1)] H5 rfl rfl rfl (o_store [vU 1,vS s,vI 0,vU 0,vU 0,vU 0,vU 0] H5 hd rfl rfl (by kernel_rfl) rfl rfl rfl) rfl fun _ _ H7 hq => ?_
 obtain ⟨_,hq⟩:=hq
 replace hS : SH M X w [eB b1 [vU 1,vS s,vI 0,vU 0,vU 0,vU 0,vU 0]] _:=hS.join [0] [] rfl rfl hq
 apply wl_end rfl
 apply w_ret
 subst hm
 exact retR1 H7 rfl (oneRes_agg rfl (hS.bk 0 rfl) Tryz.underlying57 rfl (by kernel_rfl)) ⟨_,rfl,rfl,(hS.sel [] rfl)⟩
theorem props_word_ok  (s : Str) : Ret Tryz.prog 76 ⟨[vS s]⟩ (vG (cV (props_word s))):=retP_of (Tryz.call76 _) (fun w h => props_word_w F0   s _ rfl w h)

def tyProp : Ty TProp where
  z:=12
  enc:=fun x g => [vS x.Name,vB x.Inherited,vU x.Initial.Kind,vS x.Initial.Word,vI x.Initial.Num,vU x.Initial.Color.Red,vU x.Initial.Color.Green,vU x.Initial.Color.Blue,vU x.Initial.Color.Alpha,.slice (g 0).a x.Words.length (g 0).c,.slice (g 1).a x.Kinds.length (g 1).c,vB x.Least]
  inn:=fun M w x g => SlG tS M w x.Words (g 0) ∧ SlG (tI .u8) M w x.Kinds (g 1) ∧ True
  len:=fun _ _ => rfl
  one:=fun _ _ => rfl
  kp:=fun h k hX => ⟨h.1.kp k hX,h.2.1.kp k hX,trivial⟩
  anti:=fun h hM => ⟨h.1.anti hM,h.2.1.anti hM,trivial⟩
  fresh:=fun h => ⟨h.1.fresh,h.2.1.fresh,trivial⟩
theorem tyProp_i0 {M : Av} {w : World} {x : TProp} {g : Nat → Gh} (h : tyProp.inn M w x g) : SlG tS M w x.Words (g 0):=(show SlG tS M w x.Words (g 0) ∧ SlG (tI .u8) M w x.Kinds (g 1) ∧ True from h).1
theorem tyProp_i1 {M : Av} {w : World} {x : TProp} {g : Nat → Gh} (h : tyProp.inn M w x g) : SlG (tI .u8) M w x.Kinds (g 1):=(show SlG tS M w x.Words (g 0) ∧ SlG (tI .u8) M w x.Kinds (g 1) ∧ True from h).2.1
theorem tyProp_mk {M : Av} {w : World} {x : TProp} {g : Nat → Gh} (h0 : SlG tS M w x.Words (g 0)) (h1 : SlG (tI .u8) M w x.Kinds (g 1)) : tyProp.inn M w x g:=show SlG tS M w x.Words (g 0) ∧ SlG (tI .u8) M w x.Kinds (g 1) ∧ True from ⟨h0,h1,trivial⟩
theorem props_color_w  (M : Av) (name_ : Str) (inherited : Bool) (first : TVal) (r : TProp) (hm : props_color name_ inherited first = r) (w : World) (hS : S0 M [] w) : Calls Tryz.prog 77 ⟨[vS name_,vB inherited,vG (cV first)]⟩ w (fun e w' => ∃ v,e = .returned v ∧ ∃ (g901 : Gh) (g903 : Gh),v = vG [vS r.Name,vB r.Inherited,vU r.Initial.Kind,vS r.Initial.Word,vI r.Initial.Num,vU r.Initial.Color.Red,vU r.Initial.Color.Green,vU r.Initial.Color.Blue,vU r.Initial.Color.Alpha,vL g901 r.Words,vL g903 r.Kinds,vB r.Least] ∧ SH M (fpl []) w [eO 9 tS r.Words g901,eO 5 (tI .u8) r.Kinds g903] w'):=by
 rw [props_color] at hm
 have hS0 : SH M (fpl []) w [] w:=hS
 generalize hX : fpl [] = X at hS0 ⊢
 clear hS hX
 have hS:=hS0
 clear hS0
 refine calls_entryP Tryz.func77 rfl Tryz.ntmps77 rfl fun _ H => ?_
 apply w_seq
 apply wl_start
 have hd:=hS.hand [] [] rfl rfl
 refine m_stp [5,0,1] (fS [0,1] [vS name_,vB inherited]) H rfl rfl rfl rfl (o_box (cV first) H hd rfl rfl) (fun _ => rfl) fun _ _ v H3 hq => ?_
 obtain ⟨b1,rfl,hq⟩:=hq
 replace hS : SH M X w [eB b1 (cV first)] _:=hS.join [] [] rfl rfl hq
 have hd:=hS.hand [] [0] rfl rfl
 refine m_stp [6,0,1,5] (fS [0,1,5] [vS name_,vB inherited,vP b1]) H3 rfl rfl rfl rfl (o_alloc [vN,vF,vU 0,vN,vI 0,vU 0,vU 0,vU 0,vU 0,vO,vO,vF] (z:=vG [vN,vF,vU 0,vN,vI 0,vU 0,vU 0,vU 0,vU 0,vO,vO,vF]) hd (by kernel_rfl) rfl) (fun _ => rfl) fun _ _ v H6 hq => ?_
 obtain ⟨b4,rfl,hq⟩:=hq
 replace hS : SH M X w [eB b4 [vN,vF,vU 0,vN,vI 0,vU 0,vU 0,vU 0,vU 0,vO,vO,vF],eB b1 (cV first)] _:=hS.join [] [0] rfl rfl hq
 apply wl_end rfl
 apply w_seq
 apply wl_start
 refine wl_batch 0 3 [(vG (cV first))] [6,7,8,9] (fS [6,7,8,9] [vP b4,vS name_,vB inherited,vG (cV first)]) [rN b1 0 (cV first)] H6 (by decide) (by kernel_rfl) ⟨((hS.bk 1 rfl).atD rfl),trivial⟩ fun _ _ H8 hb => ?_
 replace hS:=hS.below hb
 have hd:=hS.hand [] [0,1] rfl rfl
 refine m_stp [10,6,7,8,9] (fS [6,7,8,9] [vP b4,vS name_,vB inherited,vG (cV first)]) H8 rfl rfl rfl rfl (o_lit (T:=(tI .u8)) (E:=5) (zv:=vU 0) [vU 7,vU 8] ([7,8] : List Int) [gL [],gL []] _ H8 hd rfl (by kernel_rfl) (by kernel_rfl) (by kernel_rfl) (by kernel_rfl) (by kernel_rfl) (by kernel_rfl) (by kernel_rfl) rfl (InnL.cons trivial (InnL.cons trivial InnL.nil))) (fun _ => rfl) fun _ _ v H12 hq => ?_
 obtain ⟨g9,rfl,hq⟩:=hq
 replace hS : SH M X w [eO 5 (tI .u8) ([7,8] : List Int) g9,eB b4 [vN,vF,vU 0,vN,vI 0,vU 0,vU 0,vU 0,vU 0,vO,vO,vF],eB b1 (cV first)] _:=hS.join [] [0,1] rfl rfl hq
 refine wl_batch 4 5 [] [6,11] (fS [6,11] [vP b4,vG [vS name_,vB inherited,vU first.Kind,vS first.Word,vI first.Num,vU first.Color.Red,vU first.Color.Green,vU first.Color.Blue,vU first.Color.Alpha,vO,vK g9 2,vF]]) [] H12 (by decide) (by kernel_rfl) trivial fun _ _ H14 hb => ?_
 replace hS:=hS.below hb
 have hd:=hS.hand [1] [0,2] rfl rfl
 refine m_stp0 [6] [(6,[],vP b4)] H14 rfl rfl rfl (o_store [vS name_,vB inherited,vU first.Kind,vS first.Word,vI first.Num,vU first.Color.Red,vU first.Color.Green,vU first.Color.Blue,vU first.Color.Alpha,vO,vK g9 2,vF] H14 hd rfl rfl (by kernel_rfl) rfl rfl rfl) rfl fun _ _ H16 hq => ?_
 obtain ⟨_,hq⟩:=hq
 replace hS : SH M X w [eB b4 [vS name_,vB inherited,vU first.Kind,vS first.Word,vI first.Num,vU first.Color.Red,vU first.Color.Green,vU first.Color.Blue,vU first.Color.Alpha,vO,vK g9 2,vF],eO 5 (tI .u8) ([7,8] : List Int) g9,eB b1 (cV first)] _:=hS.join [1] [0,2] rfl rfl hq
 apply wl_end rfl
 replace hS : SH M X w [eB b4 [vS name_,vB inherited,vU first.Kind,vS first.Word,vI first.Num,vU first.Color.Red,vU first.Color.Green,vU first.Color.Blue,vU first.Color.Alpha,vO,vK g9 2,vF],eO 5 (tI .u8) ([7,8] : List Int) g9] _:=hS.sel [0,1] rfl
 apply w_ret
 subst hm
 replace hS : SH M X w [eO 9 tS ([] : List Str) (.nil),eB b4 [vS name_,vB inherited,vU first.Kind,vS first.Word,vI first.Num,vU first.Color.Red,vU first.Color.Green,vU first.Color.Blue,vU first.Color.Alpha,vO,vK g9 2,vF],eO 5 (tI .u8) ([7,8] : List Int) g9] _:=hS.addNil 9 tS
 exact retR1 H16 rfl (oneRes_agg rfl (hS.bk 1 rfl) Tryz.underlying100 rfl (by kernel_rfl)) ⟨_,rfl,Gh.nil,g9,rfl,(hS.sel [0,2] rfl)⟩
theorem props_color_ok  (name_ : Str) (inherited : Bool) (first : TVal) (r : TProp) (hm : props_color name_ inherited first = r) (M : Av) (w : World) (hS : S0 M [] w) : DoesX Tryz.prog 77 ⟨[vS name_,vB inherited,vG (cV first)]⟩ w (fun v w' => ∃ (g901 : Gh) (g903 : Gh),v = vG [vS r.Name,vB r.Inherited,vU r.Initial.Kind,vS r.Initial.Word,vI r.Initial.Num,vU r.Initial.Color.Red,vU r.Initial.Color.Green,vU r.Initial.Color.Blue,vU r.Initial.Color.Alpha,vL g901 r.Words,vL g903 r.Kinds,vB r.Least] ∧ SH M (fpl []) w [eO 9 tS r.Words g901,eO 5 (tI .u8) r.Kinds g903] w'):=⟨Tryz.call77 _,props_color_w M   name_ inherited first r hm w hS⟩

abbrev gE0 : Ent:=eI (tI .u8) gl_strings_asciiSpace (Gh.mk (some ⟨0,0,none⟩) 256 fun _ _ => .nil)
end Go.Proofs.YtpgflfjmjppmeaaGreatDoor
