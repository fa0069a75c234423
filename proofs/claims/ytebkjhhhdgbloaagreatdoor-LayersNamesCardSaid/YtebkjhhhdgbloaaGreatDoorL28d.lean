/-
  What the Go functions compute, as Lean functions, and that a call returns just that. Printed by a program.
-/
import Derived.Test.YtebkjhhhdgbloaaGreatDoorRows
import Derived.Test.YtebkjhhhdgbloaaGreatDoorX
import Derived.Test.YtebkjhhhdgbloaaGreatDoorMP
import Derived.Test.YtebkjhhhdgbloaaGreatDoorCO
import Derived.Test.YtebkjhhhdgbloaaGreatDoorAF
import Derived.Test.YtebkjhhhdgbloaaGreatDoorT
import Derived.Test.YtebkjhhhdgbloaaGreatDoorMI
import Derived.Test.YtebkjhhhdgbloaaGreatDoorFM
import Derived.Test.YtebkjhhhdgbloaaGreatDoorGR
import Derived.Test.YtebkjhhhdgbloaaGreatDoorI
import Derived.Test.YtebkjhhhdgbloaaGreatDoorL28c
set_option linter.unusedVariables false
set_option maxRecDepth 20000
set_option maxHeartbeats 4000000
namespace Go.Proofs.YtebkjhhhdgbloaaGreatDoor
open Go.V Go.RowKit

theorem rd {aa : Gh} (M : Av) (m : Nat) (l_ : List bM) (e_ : iu) (bv : Int) (r : Mi × (List (List Str)) × (List aw)) (hm : i7 m l_ e_ bv = some r) (w : World) (hS : S0 M [eI bx l_ aa,gE4,Ent.tab 0 (Lib.pow10Tab.map fun z => Value.int .u64 z)] w) : Calls Tryz.prog 15 ⟨[vL aa l_,vG [vI e_.ct],vU bv]⟩ w (fun e w' => ∃ v,e = .returned v ∧ ∃ (wt : Nat) (wr : Gh) (wo : Gh),v = vG [.map (some wt),vL wr r.2.1,vL wo r.2.2] ∧ SH M (fpl [eI bx l_ aa,gE4,Ent.tab 0 (Lib.pow10Tab.map fun z => Value.int .u64 z)]) w [Ent.mpi wt r.1,eO 55 (Ty.sl tS) r.2.1 wr,eO 69 am r.2.2 wo] w'):=by
 rw [i7] at hm
 have hS0 : SH M (fpl [eI bx l_ aa,gE4,Ent.tab 0 (Lib.pow10Tab.map fun z => Value.int .u64 z)]) w [eI bx l_ aa,gE4,Ent.tab 0 (Lib.pow10Tab.map fun z => Value.int .u64 z)] w:=hS
 generalize hX : fpl [eI bx l_ aa,gE4,Ent.tab 0 (Lib.pow10Tab.map fun z => Value.int .u64 z)] = X at hS0 ⊢
 clear hS hX
 have hS:=hS0
 clear hS0
 refine calls_entryP Tryz.func15 rfl Tryz.ntmps15 rfl fun _ H => ?_
 refine t_in H hS (t_starts ?_)
 refine t_m [] [0,1,2] [0,2] [vL aa l_,vU bv] (fun _ _ H hd => o_box [vI e_.ct] H hd rfl rfl) fun b1 => ?_
 refine t_m [] [0,1,2,3] [0,2,4] [vL aa l_,vU bv,vP b1] (fun _ _ H3 hd => o_alloc [.map none,vO,vO] (z:=vG [.map none,vO,vO]) hd (by kernel_rfl) rfl) fun b4 => (t_end (t_starts ?_))
 refine t_m [] [0,1,2,3,4] [0,2,4,6] [vL aa l_,vU bv,vP b1,vP b4] (fun _ _ H6 hd => o_mkI hd) fun b7 => ?_
 refine t_b 2 [0,2,4,6,14] [vL aa l_,vU bv,vP b1,vP b4,vG [.map (some b7),vO,vO]] [] ?_
 refine t_m [] [0,1,2,3,4,5] [0,2,4,6,14] [vL aa l_,vU bv,vP b1,vP b4,vG [.map (some b7),vO,vO]] (fun _ _ H11 hd => o_alloc [.map none,vO,vO] (z:=vG [.map none,vO,vO]) hd (by kernel_rfl) rfl) fun b12 => ?_
 refine t_m0 [0] [1,2,3,4,5,6] [0,2,4,6,7] [vL aa l_,vU bv,vP b1,vP b4,vP b12] (fun _ _ H14 hd => o_store [.map (some b7),vO,vO] H14 hd rfl rfl (by kernel_rfl) rfl rfl rfl) (t_end (t_starts ?_))
 refine t_m [] [0,1,2,3,4,5,6] [0,2,4,6,7] [vL aa l_,vU bv,vP b1,vP b4,vP b12] (fun _ _ H16 hd => o_alloc [vI 0] (z:=vI 0) hd (by kernel_rfl) rfl) fun b17 => ?_
 refine t_m0 [0] [1,2,3,4,5,6,7] [0,2,4,6,7,8] [vL aa l_,vU bv,vP b1,vP b4,vP b12,vP b17] (fun _ _ H19 hd => o_store [vI 0] H19 hd rfl rfl (by kernel_rfl) rfl rfl rfl) (t_end (t_starts ?_))
 refine t_b 1 [0,2,4,6,7,8,15] [vL aa l_,vU bv,vP b1,vP b4,vP b12,vP b17,.func (.func 27) ⟨[]⟩ ⟨[vP b12]⟩] [] ?_
 refine t_m [] [0,1,2,3,4,5,6,7] [0,2,4,6,7,8,15] [vL aa l_,vU bv,vP b1,vP b4,vP b12,vP b17,.func (.func 27) ⟨[]⟩ ⟨[vP b12]⟩] (fun _ _ H23 hd => o_alloc [.nilFunc] (z:=.nilFunc) hd (by kernel_rfl) rfl) fun b24 => ?_
 refine t_m0 [0] [1,2,3,4,5,6,7,8] [0,2,4,6,7,8,9] [vL aa l_,vU bv,vP b1,vP b4,vP b12,vP b17,vP b24] (fun _ _ H26 hd => o_store [.func (.func 27) ⟨[]⟩ ⟨[vP b12]⟩] H26 hd rfl rfl (by kernel_rfl) rfl rfl rfl) (t_end (t_starts ?_))
 refine t_m [] [0,1,2,3,4,5,6,7,8] [0,2,4,6,7,8,9] [vL aa l_,vU bv,vP b1,vP b4,vP b12,vP b17,vP b24] (fun _ _ H28 hd => o_alloc [.nilFunc] (z:=.nilFunc) hd (by kernel_rfl) rfl) fun b29 => (t_end (t_starts ?_))
 refine t_b 1 [0,2,6,7,10,16] [vL aa l_,vU bv,vP b4,vP b12,vP b29,.func (.func 30) ⟨[]⟩ ⟨[vP b1,vP b12,vP b24,vP b17,vP b29]⟩] [] ?_
 refine t_m0 [0] [1,2,3,4,5,6,7,8,9] [0,2,6,7,10] [vL aa l_,vU bv,vP b4,vP b12,vP b29] (fun _ _ H33 hd => o_store [.func (.func 30) ⟨[]⟩ ⟨[vP b1,vP b12,vP b24,vP b17,vP b29]⟩] H33 hd rfl rfl (by kernel_rfl) rfl rfl rfl) (t_end ?_)
 obtain ⟨z36,hz,hm⟩:=bindE hm
 intro _ _ H35 hS
 refine w_cut (fun a' w' => ∃ (g84 : Gh) (g86 : Gh),Fr 36 (fS [6,7] [vP b4,vP b12]) a' ∧ SH M X w [eO 55 (Ty.sl tS) z36.2.1 g84,eO 69 am z36.2.2.1 g86,eB b29 [.func (.func 30) ⟨[]⟩ ⟨[vP b1,vP b12,vP b24,vP b17,vP b29]⟩],eB b24 [.func (.func 27) ⟨[]⟩ ⟨[vP b12]⟩],eB b17 [vI z36.1],eB b12 [.map (some b7),vL g84 z36.2.1,vL g86 z36.2.2.1],Ent.mpi b7 z36.2.2.2,eB b4 [.map none,vO,vO],eB b1 [vI e_.ct],eI bx l_ aa,gE4,Ent.tab 0 (Lib.pow10Tab.map fun z => Value.int .u64 z)] w') ?_ ?_
 ·replace hm:=hz
  refine t_in H35 hS ?_
  refine t_r [2,6,7,10,17,18,19] [vU bv,vP b4,vP b12,vP b29,vL aa l_,vI (ln l_),vI 0] [] (t_block ?_)
  refine t_nil 55 (Ty.sl tS) ?_
  refine t_nil 69 am ?_
  intro _ _ H38 hS
  refine w_loop (fun kk a' w' => ∃ (v41 : Int) (v42 : Int) (v43 : List (List Str)) (v45 : List aw) (v47 : Mi) (g44 : Gh) (g46 : Gh),gN m l_ e_ bv kk v41 v42 v43 v45 v47 = some _ ∧ Fr 36 (fS [2,6,7,10,17,18,19] [vU bv,vP b4,vP b12,vP b29,vL aa l_,vI (ln l_),vI v41]) a' ∧ SH M X w [eO 69 am v45 g46,eO 55 (Ty.sl tS) v43 g44,eB b29 [.func (.func 30) ⟨[]⟩ ⟨[vP b1,vP b12,vP b24,vP b17,vP b29]⟩],eB b24 [.func (.func 27) ⟨[]⟩ ⟨[vP b12]⟩],eB b17 [vI v42],eB b12 [.map (some b7),vL g44 v43,vL g46 v45],Ent.mpi b7 v47,eB b4 [.map none,vO,vO],eB b1 [vI e_.ct],eI bx l_ aa,gE4,Ent.tab 0 (Lib.pow10Tab.map fun z => Value.int .u64 z)] w') ⟨_,0,0,([] : List (List Str)),([] : List aw),([] : Mi),Gh.nil,Gh.nil,hm,FrG.keep (ks:=[2,6,7,10,17,18,19]) H38 (by kernel_rfl),hS⟩ ?_
  clear hm H38 hS
  rintro kk _ _ ⟨v41,v42,v43,v45,v47,g44,g46,hm,H,hS⟩
  cases kk with
  | zero => exact noneE hm
  | succ kk =>
   rw [gN] at hm
   refine t_in H hS ?_
   refine t_r [2,6,7,10,17,18,19,20] [vU bv,vP b4,vP b12,vP b29,vL aa l_,vI (ln l_),vI v41,vB (decide (v41 < (ln l_)))] [] (t_seq ?_)
   refine t_im hm (fun hm => ?_) (fun hm => ?c82)
   case c82 =>
    refine t_exit ?_
    obtain rfl:=someE hm
    refine t_sel [1,0,2,3,4,5,6,7,8,9,10,11] ?_
    exact fun _ _ H49 hS => ⟨g44,g46,FrG.keep (ks:=[6,7]) H49 (by kernel_rfl),hS⟩
   refine t_skip ?_
   obtain ⟨z50,hz,hm⟩:=bindE hm
   intro _ _ H49 hS
   refine w_cut (fun a' w' => ∃ (g75 : Gh) (g77 : Gh),Fr 36 (fS [2,6,7,10,17,18,19] [vU bv,vP b4,vP b12,vP b29,vL aa l_,vI (ln l_),vI v41]) a' ∧ SH M X w [eO 55 (Ty.sl tS) z50.2.1 g75,eO 69 am z50.2.2.1 g77,eB b29 [.func (.func 30) ⟨[]⟩ ⟨[vP b1,vP b12,vP b24,vP b17,vP b29]⟩],eB b24 [.func (.func 27) ⟨[]⟩ ⟨[vP b12]⟩],eB b17 [vI z50.1],eB b12 [.map (some b7),vL g75 z50.2.1,vL g77 z50.2.2.1],Ent.mpi b7 z50.2.2.2,eB b4 [.map none,vO,vO],eB b1 [vI e_.ct],eI bx l_ aa,gE4,Ent.tab 0 (Lib.pow10Tab.map fun z => Value.int .u64 z)] w') ?_ ?_
   ·replace hm:=hz
    refine t_in H49 hS (t_block (t_starts ?_))
    obtain ⟨ho51,hm⟩:=chkE hm
    refine t_b 3 [2,6,7,10,17,18,19,21,23] [vU bv,vP b4,vP b12,vP b29,vL aa l_,vI (ln l_),vI v41,vI v41,vG [vU ((gi l_ v41).ed),.slice (aa.s (v41).toNat 0).a (((gi l_ v41).bj.aF).length) (aa.s (v41).toNat 0).c]] [ki 9 ho51,⟨some (vG [vU ((gi l_ v41).ed),.slice (aa.s (v41).toNat 0).a (((gi l_ v41).bj.aF).length) (aa.s (v41).toNat 0).c]),fun wz => V.atN (ab aa.a) (ao aa.a + (v41).toNat * 2) [vU ((gi l_ v41).ed),.slice (aa.s (v41).toNat 0).a (((gi l_ v41).bj.aF).length) (aa.s (v41).toNat 0).c] 0 wz,fun _ hS => ((hS.im 9 rfl).atA ho51 0 rfl)⟩] ?_
    refine t_m [] [0,1,2,3,4,5,6,7,8,9,10,11] [2,6,7,10,17,18,19,21,23] [vU bv,vP b4,vP b12,vP b29,vL aa l_,vI (ln l_),vI v41,vI v41,vG [vU ((gi l_ v41).ed),.slice (aa.s (v41).toNat 0).a (((gi l_ v41).bj.aF).length) (aa.s (v41).toNat 0).c]] (fun _ _ H53 hd => o_alloc [vU 0,vO] (z:=vG [vU 0,vO]) hd (by kernel_rfl) rfl) fun b54 => ?_
    refine t_b 5 [2,6,7,10,11,12,17,18,19,23] [vU bv,vP b4,vP b12,vP b29,vI v41,vP b54,vL aa l_,vI (ln l_),vI v41,vG [vU ((gi l_ v41).ed),.slice (aa.s (v41).toNat 0).a (((gi l_ v41).bj.aF).length) (aa.s (v41).toNat 0).c]] [] ?_
    refine t_m0 [0] [1,2,3,4,5,6,7,8,9,10,11,12] [2,6,7,10,11,12,17,18,19] [vU bv,vP b4,vP b12,vP b29,vI v41,vP b54,vL aa l_,vI (ln l_),vI v41] (fun _ _ H58 hd => o_store [vU ((gi l_ v41).ed),.slice (aa.s (v41).toNat 0).a (((gi l_ v41).bj.aF).length) (aa.s (v41).toNat 0).c] H58 hd rfl rfl (by kernel_rfl) rfl rfl rfl) (t_end ?_)
    refine t_r [2,6,7,10,11,12,17,18,19,27] [vU bv,vP b4,vP b12,vP b29,vI v41,vP b54,vL aa l_,vI (ln l_),vI v41,vB (((gi l_ v41).ed) == bv)] [kb 0 0] ?_
    refine t_im hm (fun hm => ?_) (fun hm => ?c74)
    case c74 =>
     refine t_skip ?_
     obtain rfl:=someE hm
     refine t_sel [2,1,3,4,5,6,7,8,9,10,11,12] ?_
     exact fun _ _ H62 hS => ⟨g44,g46,FrG.keep (ks:=[2,6,7,10,17,18,19]) H62 (by kernel_rfl),hS⟩
    refine t_start ?_
    refine t_b 5 [2,6,7,10,17,18,19,28,31,32] [vU bv,vP b4,vP b12,vP b29,vL aa l_,vI (ln l_),vI v41,.func (.func 30) ⟨[]⟩ ⟨[vP b1,vP b12,vP b24,vP b17,vP b29]⟩,.slice (aa.s (v41).toNat 0).a (((gi l_ v41).bj.aF).length) (aa.s (v41).toNat 0).c,vI v41] [kb 3 0,kb 0 1] ?_
    intro _ _ H64 hS
    replace hS:=hS.addIm (cF ((hS.im 10 rfl).el ho51))
    replace hS:=hS.addNil 9 tS
    replace hS:=SH.frz1 (hS.sel [0,1,2,3,4,5,6,7,8,9,10,11,12,13,14] rfl)
    obtain ⟨y67,hy67,hm⟩:=bindE hm
    have hd:=hS.hand [1,0,11,8,9,4,3,6,7,5,13,14] [0,1,2,10,12,13,14] rfl rfl
    refine m_stp [33,2,6,7,10,17,18,19] (fS [2,6,7,10,17,18,19] [vU bv,vP b4,vP b12,vP b29,vL aa l_,vI (ln l_),vI v41]) H64 rfl rfl rfl rfl (o_callx H64 rfl rfl (oY (aq:=(aa.s (v41).toNat 0)) (aG:=Gh.nil) (aW:=b1) (bO:=b12) (bd:=b7) (cZ:=g44) (cv:=g46) (cI:=b24) (cK:=b17) (cJ:=b29) m _ _ _ _ _ _ _ _ _ hy67 _ _ hd)) (fun _ => rfl) fun _ _ v H73 hq => ?_
    obtain ⟨g68,g70,rfl,hq⟩:=hq
    replace hS:=hS.join [1,0,11,8,9,4,3,6,7,5,13,14] [0,1,2,10,12,13,14] rfl rfl hq
    refine t_in H73 hS (t_end (t_sel [0,1,2,3,4,5,6,7,11,12,13,14] ?_))
    obtain rfl:=someE hm
    refine t_sel [2,3,7,5,6,1,4,8,0,9,10,11] ?_
    exact fun _ _ H73 hS => ⟨g68,g70,FrG.keep (ks:=[2,6,7,10,17,18,19]) H73 (by kernel_rfl),hS⟩
   ·rintro _ _ ⟨g75,g77,H,hS⟩
    refine t_in H hS ?_
    refine t_w [2,6,7,10,17,18,19] [vU bv,vP b4,vP b12,vP b29,vL aa l_,vI (ln l_),vI (w64 (v41 + 1))] [] (t_sel [1,0,2,3,4,5,6,7,8,9,10,11] ?_)
    exact fun _ _ H80 hS => ⟨_,Nat.lt_succ_self _,w64 (v41 + 1),z50.1,z50.2.1,z50.2.2.1,z50.2.2.2,g75,g77,hm,FrG.keep (ks:=[2,6,7,10,17,18,19]) H80 (by kernel_rfl),hS⟩
 ·rintro _ _ ⟨g84,g86,H,hS⟩
  replace hS:=hS.sel [0,1,5,6,7,10,11] rfl
  refine t_in H hS (t_starts ?_)
  refine t_b 1 [6,35] [vP b4,vG [.map (some b7),vL g84 z36.2.1,vL g86 z36.2.2.1]] [kE 2 3] ?_
  refine t_m0 [4] [0,1,2,3,5,6] [6] [vP b4] (fun _ _ H89 hd => o_store [.map (some b7),vL g84 z36.2.1,vL g86 z36.2.2.1] H89 hd rfl rfl (by kernel_rfl) rfl rfl rfl) (t_end (t_sel [0,1,2,4,5,6] (t_ret ?_)))
  obtain rfl:=someE hm
  exact fun _ _ H91 hS => retR1 H91 rfl (oneRes_agg rfl (hS.bk 0 rfl) Tryz.underlying65 rfl (by kernel_rfl)) ⟨_,rfl,b7,g84,g86,rfl,(hS.sel [3,1,2] rfl)⟩
theorem my {aa : Gh} (m : Nat) (l_ : List bM) (e_ : iu) (bv : Int) (r : Mi × (List (List Str)) × (List aw)) (hm : i7 m l_ e_ bv = some r) (M : Av) (w : World) (hS : S0 M [eI bx l_ aa,gE4,Ent.tab 0 (Lib.pow10Tab.map fun z => Value.int .u64 z)] w) : DoesX Tryz.prog 15 ⟨[vL aa l_,vG [vI e_.ct],vU bv]⟩ w (fun v w' => ∃ (wt : Nat) (wr : Gh) (wo : Gh),v = vG [.map (some wt),vL wr r.2.1,vL wo r.2.2] ∧ SH M (fpl [eI bx l_ aa,gE4,Ent.tab 0 (Lib.pow10Tab.map fun z => Value.int .u64 z)]) w [Ent.mpi wt r.1,eO 55 (Ty.sl tS) r.2.1 wr,eO 69 am r.2.2 wo] w'):=⟨Tryz.call15 _,rd M m   l_ e_ bv r hm w hS⟩

def f2 (s : List (List Str)) : Option (List (List Str)) :=
  chk (ln ([] : List (List Str)) + ln s ≤ 137438953472) <|
  lt (([] : List (List Str)) ++ s) fun q22 =>
  some q22
theorem jL {g_s : Gh} (s : List (List Str)) (r : List (List Str)) (hm : f2 s = some r) : DoesM Tryz.prog 33 ⟨[vL g_s s]⟩ [eI (Ty.sl tS) s g_s] (fun (aA : Gh) => vL aA r) (fun aA => [eO 55 (Ty.sl tS) r aA]):=by
 rw [f2] at hm
 refine f_mem (Tryz.call33 _) Tryz.func33 Tryz.ntmps33 fun M X w => ?_
 refine t_r [0] [vL g_s s] [] (t_seq ?_)
 intro _ _ H2 hS
 rcases g_s with _ | ⟨_ | ad,gc,gs⟩
 ·obtain rfl : s = []:=SlG.nl (hS.im 0 rfl) rfl
  replace hm : (some ([] : List (List Str))) = some r:=hm
  refine t_in H2 hS ?_
  refine t_r [0,4] [.slice Gh.nil.a (([] : List (List Str)).length) Gh.nil.c,vT] [] ?_
  intro _ _ H4 hS
  refine w_if H4 rfl (fun _ => ?_) (fun hc => by cases hc)
  refine t_in H4 hS ?_
  refine t_r [2] [vO] [] (t_sel [] (t_ret ?_))
  obtain rfl:=someE hm
  refine t_nil 55 (Ty.sl tS) ?_
  exact t_g Gh.nil [0] rs1
 ·obtain rfl : s = []:=SlG.nl (hS.im 0 rfl) rfl
  replace hm : (some ([] : List (List Str))) = some r:=hm
  refine t_in H2 hS ?_
  refine t_r [0,4] [.slice (Gh.mk none gc gs).a (([] : List (List Str)).length) (Gh.mk none gc gs).c,vT] [] ?_
  intro _ _ H9 hS
  refine w_if H9 rfl (fun _ => ?_) (fun hc => by cases hc)
  refine t_in H9 hS ?_
  refine t_r [2] [vO] [] (t_sel [] (t_ret ?_))
  obtain rfl:=someE hm
  refine t_nil 55 (Ty.sl tS) ?_
  exact t_g Gh.nil [0] rs1
 ·skip
  refine t_in H2 hS ?_
  refine t_r [0,4] [.slice (Gh.mk (some ad) gc gs).a s.length (Gh.mk (some ad) gc gs).c,vF] [] ?_
  intro _ _ H14 hS
  refine w_if H14 rfl (fun hc => by cases hc) (fun _ => ?_)
  refine t_in H14 hS (t_skip (t_starts ?_))
  refine t_m [] [0] [0] [.slice (Gh.mk (some ad) gc gs).a s.length (Gh.mk (some ad) gc gs).c] (fun _ _ H14 hd => o_lit0 (T:=(Ty.sl tS)) (E:=55) hd (by kernel_rfl) (by kernel_rfl)) fun g15 => ?_
  refine t_b 2 [5,6] [vK g15 0,.slice (Gh.mk (some ad) gc gs).a s.length (Gh.mk (some ad) gc gs).c] [] ?_
  obtain ⟨ho21,hm⟩:=chkE hm
  obtain ⟨q22,hq22,hm⟩:=letE hm
  refine t_m [0,1] [1] [] [] (fun _ _ H20 hd => o_app (T:=(Ty.sl tS)) (zv:=vO) (g1:=g15) (g2:=(Gh.mk (some ad) gc gs)) (l1:=([] : List (List Str))) (l2:=s) q22 hq22.symm H20 hd rfl rfl rfl rfl rfl rfl rfl (by kernel_rfl) (by kernel_rfl) rfl rfl ho21) fun g25 => ?_
  refine t_b 4 [2] [vL g25 q22] [] (t_end (t_sel [0] (t_ret ?_)))
  obtain rfl:=someE hm
  exact t_g g25 [0] rs1

def la (x_ : Int) : Option (Int) :=
  cond (decide (4294967296 ≤ x_)) (
  none) (
  cond (decide (65536 ≤ x_)) (
  none) (
  cond (decide (256 ≤ x_)) (
  none) (
  chk (0 ≤ (wu8 x_) ∧ (wu8 x_) < ln [0,1,2,2,3,3,3,3,4,4,4,4,4,4,4,4,5,5,5,5,5,5,5,5,5,5,5,5,5,5,5,5,6,6,6,6,6,6,6,6,6,6,6,6,6,6,6,6,6,6,6,6,6,6,6,6,6,6,6,6,6,6,6,6,7,7,7,7,7,7,7,7,7,7,7,7,7,7,7,7,7,7,7,7,7,7,7,7,7,7,7,7,7,7,7,7,7,7,7,7,7,7,7,7,7,7,7,7,7,7,7,7,7,7,7,7,7,7,7,7,7,7,7,7,7,7,7,7,8,8,8,8,8,8,8,8,8,8,8,8,8,8,8,8,8,8,8,8,8,8,8,8,8,8,8,8,8,8,8,8,8,8,8,8,8,8,8,8,8,8,8,8,8,8,8,8,8,8,8,8,8,8,8,8,8,8,8,8,8,8,8,8,8,8,8,8,8,8,8,8,8,8,8,8,8,8,8,8,8,8,8,8,8,8,8,8,8,8,8,8,8,8,8,8,8,8,8,8,8,8,8,8,8,8,8,8,8,8,8,8,8,8,8,8,8,8,8,8,8,8,8,8,8,8,8,8]) <|
  lt (bat [0,1,2,2,3,3,3,3,4,4,4,4,4,4,4,4,5,5,5,5,5,5,5,5,5,5,5,5,5,5,5,5,6,6,6,6,6,6,6,6,6,6,6,6,6,6,6,6,6,6,6,6,6,6,6,6,6,6,6,6,6,6,6,6,7,7,7,7,7,7,7,7,7,7,7,7,7,7,7,7,7,7,7,7,7,7,7,7,7,7,7,7,7,7,7,7,7,7,7,7,7,7,7,7,7,7,7,7,7,7,7,7,7,7,7,7,7,7,7,7,7,7,7,7,7,7,7,7,8,8,8,8,8,8,8,8,8,8,8,8,8,8,8,8,8,8,8,8,8,8,8,8,8,8,8,8,8,8,8,8,8,8,8,8,8,8,8,8,8,8,8,8,8,8,8,8,8,8,8,8,8,8,8,8,8,8,8,8,8,8,8,8,8,8,8,8,8,8,8,8,8,8,8,8,8,8,8,8,8,8,8,8,8,8,8,8,8,8,8,8,8,8,8,8,8,8,8,8,8,8,8,8,8,8,8,8,8,8,8,8,8,8,8,8,8,8,8,8,8,8,8,8,8,8,8,8] (wu8 x_)) fun x10 =>
  some (w64 (0 + (w64 x10))))))
theorem pM  (x_ : Int) (r : Int) (hm : la x_ = some r) : Ret Tryz.prog 80 ⟨[.int .u64 x_]⟩ (vI r):=by
 rw [la] at hm
 refine f_pure (Tryz.call80 _) Tryz.func80 Tryz.ntmps80 fun M X w => ?_
 refine t_r [0,2] [.int .u64 x_,vI 0] [] (t_seq ?_)
 refine t_r [0,2,4] [.int .u64 x_,vI 0,vB (decide (4294967296 ≤ x_))] [] ?_
 refine t_i2 hm (fun hm => ?_)
 refine t_skip (t_seq ?_)
 refine t_r [0,2,8] [.int .u64 x_,vI 0,vB (decide (65536 ≤ x_))] [] ?_
 refine t_i2 hm (fun hm => ?_)
 refine t_skip (t_seq ?_)
 refine t_r [0,2,14] [.int .u64 x_,vI 0,vB (decide (256 ≤ x_))] [] ?_
 refine t_i2 hm (fun hm => ?_)
 refine t_skip ?_
 obtain ⟨ho9,hm⟩:=chkE hm
 obtain ⟨x10,hx10,hm⟩:=letE hm
 refine t_r [2] [vI (w64 (0 + (w64 x10)))] [kh ho9] ?_ (he:=by subst hx10; kernel_rfl)
 refine t_ret ?_
 obtain rfl:=someE hm
 exact t_n [] rs1

def mS (x_ : Int) : Option (Int) :=
  Option.bind (la x_) fun y3 =>
  some y3
theorem qJ  (x_ : Int) (r : Int) (hm : mS x_ = some r) : Ret Tryz.prog 49 ⟨[.int .u64 x_]⟩ (vI r):=by
 rw [mS] at hm
 refine f_pure (Tryz.call49 _) Tryz.func49 Tryz.ntmps49 fun M X w => ?_
 refine t_r [0] [.int .u64 x_] [] (t_seq ?_)
 intro _ _ H2 hS
 refine w_if H2 rfl (fun hc => by cases hc) (fun _ => ?_)
 refine t_in H2 hS (t_skip ?_)
 obtain ⟨y3,hy3,hm⟩:=bindE hm
 refine t_r [2] [vI y3] [kc (pM _ _ hy3)] (t_ret ?_)
 obtain rfl:=someE hm
 exact t_n [] rs1

def eK (m : Nat) (a_ : List Str) (b_ : List Str) (eJ : Mi) : Nat → Int → Option (Sum (Int) (Unit))
  | 0,_ => none
  | kk + 1,v6 =>
    lt (decide (v6 < (if ln b_ < ln a_ then ln b_ else ln a_))) fun x7 =>
    cond x7 (
    chk (0 ≤ v6 ∧ v6 < ln a_) <|
    chk (0 ≤ v6 ∧ v6 < ln b_) <|
    cond (!((gi a_ v6) == (gi b_ v6))) (
    chk (0 ≤ (0 : Int) ∧ (0 : Int) ≤ (w64 (v6 + 1)) ∧ (w64 (v6 + 1)) ≤ ln a_) <|
    lt (subl a_ (0 : Int) (w64 (v6 + 1))) fun q18 =>
    Option.bind (lQ m q18) fun y21 =>
    lt (mget eJ y21) fun x22 =>
    lt (mhas eJ y21) fun x23 =>
    chk (0 ≤ (0 : Int) ∧ (0 : Int) ≤ (w64 (v6 + 1)) ∧ (w64 (v6 + 1)) ≤ ln b_) <|
    lt (subl b_ (0 : Int) (w64 (v6 + 1))) fun q25 =>
    Option.bind (lQ m q25) fun y28 =>
    lt (mget eJ y28) fun x29 =>
    lt (mhas eJ y28) fun x30 =>
    some (.inl (w64 (x22 - x29)))) (
    eK m a_ b_ eJ kk (w64 (v6 + 1)))) (
    some (.inr ()))
def gn (m : Nat) (a_ : List Str) (b_ : List Str) (eJ : Mi) (dU : List (List Str)) (bQ : List aw) : Option (Int) :=
  Option.bind (
  eK m a_ b_ eJ m 0) fun (z3 : Sum (Int) (Unit)) => sumK z3 fun s_z3 =>
  some (w64 ((ln b_) - (ln a_)))
theorem mc {nO : Gh} {nv : Gh} {aW : Nat} {bu : Nat} {dc : Gh} {bp : Gh} (m : Nat) (a_ : List Str) (b_ : List Str) (eJ : Mi) (dU : List (List Str)) (bQ : List aw) (r : Int) (hm : gn m a_ b_ eJ dU bQ = some r) (w : World) (hL : S0 F0 [eI tS a_ nO,eI tS b_ nv,Ent.ro aW [.map (some bu),vL dc dU,vL bp bQ],Ent.mpr bu eJ,eI (Ty.sl tS) dU dc,eI am bQ bp,Ent.tab 0 (Lib.pow10Tab.map fun z => Value.int .u64 z)] w ∧ fpl [eI tS a_ nO,eI tS b_ nv,Ent.ro aW [.map (some bu),vL dc dU,vL bp bQ],Ent.mpr bu eJ,eI (Ty.sl tS) dU dc,eI am bQ bp,Ent.tab 0 (Lib.pow10Tab.map fun z => Value.int .u64 z)] = []) : RetB Tryz.prog 35 ⟨[vL nO a_,vL nv b_,vP aW]⟩ (vI r) w:=by
 rw [gn] at hm
 refine f_read hL (Tryz.call35 _) Tryz.func35 Tryz.ntmps35 fun M X w => ?_
 refine t_r [0,1,2] [vL nO a_,vL nv b_,vP aW] [] ?_
 obtain ⟨z3,hz,hm_z3⟩:=bindE hm
 intro _ _ H2 hS
 refine w_cut (fun a' w' => ∃ s_z3 : Unit,z3 = Sum.inr s_z3 ∧ Fr 47 (fS [0,1] [vL nO a_,vL nv b_]) a' ∧ SH M X w [eI tS a_ nO,eI tS b_ nv,Ent.ro aW [.map (some bu),vL dc dU,vL bp bQ],Ent.mpr bu eJ,eI (Ty.sl tS) dU dc,eI am bQ bp,Ent.tab 0 (Lib.pow10Tab.map fun z => Value.int .u64 z)] w') ?_ ?_
 ·replace hm:=hz
  refine t_in H2 hS ?_
  refine t_r [0,1,2,11,12] [vL nO a_,vL nv b_,vP aW,vI (if ln b_ < ln a_ then ln b_ else ln a_),vI 0] [] (t_block ?_)
  intro _ _ H5 hS
  refine w_loop (fun kk a' w' => ∃ (v6 : Int),eK m a_ b_ eJ kk v6 = some _ ∧ Fr 47 (fS [0,1,2,11,12] [vL nO a_,vL nv b_,vP aW,vI (if ln b_ < ln a_ then ln b_ else ln a_),vI v6]) a' ∧ SH M X w [eI tS a_ nO,eI tS b_ nv,Ent.ro aW [.map (some bu),vL dc dU,vL bp bQ],Ent.mpr bu eJ,eI (Ty.sl tS) dU dc,eI am bQ bp,Ent.tab 0 (Lib.pow10Tab.map fun z => Value.int .u64 z)] w') ⟨_,0,hm,FrG.keep (ks:=[0,1,2,11,12]) H5 (by kernel_rfl),hS⟩ ?_
  clear hm H5 hS
  rintro kk _ _ ⟨v6,hm,H,hS⟩
  cases kk with
  | zero => exact noneE hm
  | succ kk =>
   rw [eK] at hm
   obtain ⟨x7,hx7,hm⟩:=letE hm
   refine t_in H hS ?_
   refine t_r [0,1,2,11,12,13] [vL nO a_,vL nv b_,vP aW,vI (if ln b_ < ln a_ then ln b_ else ln a_),vI v6,vB x7] [] ?_ (he:=by subst hx7; kernel_rfl)
   refine t_seq ?_
   refine t_im hm (fun hm => ?_) (fun hm => ?c39)
   case c39 =>
    refine t_exit ?_
    obtain rfl:=someE hm
    exact fun _ _ H9 hS => ⟨_,rfl,FrG.keep (ks:=[0,1]) H9 (by kernel_rfl),hS⟩
   refine t_skip (t_seq (t_block ?_))
   refine t_r [0,1,2,6,11,12] [vL nO a_,vL nv b_,vP aW,vI v6,vI (if ln b_ < ln a_ then ln b_ else ln a_),vI v6] [] ?_
   obtain ⟨ho12,hm⟩:=chkE hm
   obtain ⟨ho13,hm⟩:=chkE hm
   refine t_dr [0,1,2,6,11,12,23] [vL nO a_,vL nv b_,vP aW,vI v6,vI (if ln b_ < ln a_ then ln b_ else ln a_),vI v6,vB (!((gi a_ v6) == (gi b_ v6)))] [ki 0 ho12,kj 0 0 ho12,ki 1 ho13,kj 1 0 ho13] ?_
   refine t_im hm (fun hm => ?_) (fun hm => ?c38)
   case c38 =>
    refine t_skip ?_
    refine t_w [0,1,2,11,12] [vL nO a_,vL nv b_,vP aW,vI (if ln b_ < ln a_ then ln b_ else ln a_),vI (w64 (v6 + 1))] [] ?_
    exact fun _ _ H37 hS => ⟨_,Nat.lt_succ_self _,w64 (v6 + 1),hm,FrG.keep (ks:=[0,1,2,11,12]) H37 (by kernel_rfl),hS⟩
   obtain ⟨ho17,hm⟩:=chkE hm
   obtain ⟨q18,hq18,hm⟩:=letE hm
   obtain ⟨y21,hy21,hm⟩:=bindE hm
   obtain ⟨x22,hx22,hm⟩:=letE hm
   obtain ⟨x23,hx23,hm⟩:=letE hm
   obtain ⟨ho24,hm⟩:=chkE hm
   obtain ⟨q25,hq25,hm⟩:=letE hm
   obtain ⟨y28,hy28,hm⟩:=bindE hm
   obtain ⟨x29,hx29,hm⟩:=letE hm
   obtain ⟨x30,hx30,hm⟩:=letE hm
   intro _ _ H15 hS
   refine s_dS (base:=(fS [0,1,2,6] [vL nO a_,vL nv b_,vP aW,vI v6])) (L:=[eI tS a_ nO,eI tS b_ nv,Ent.ro aW [.map (some bu),vL dc dU,vL bp bQ],Ent.mpr bu eJ,eI (Ty.sl tS) dU dc,eI am bQ bp,Ent.tab 0 (Lib.pow10Tab.map fun z => Value.int .u64 z)]) 18 7 (fun yg16 => [vP aW,.map (some bu),vL nO a_,vI v6,vI (w64 (v6 + 1)),.slice (yg16 5 0).a q18.length (yg16 5 0).c,vS y21,vI x22,vP aW,.map (some bu),vL nv b_,vI v6,vI (w64 (v6 + 1)),.slice (yg16 13 0).a q25.length (yg16 13 0).c,vS y28,vI x29,vI (w64 (x22 - x29)),vI (w64 (x22 - x29))]) (fun yg16 => [[],[],[],[],[],[eI tS q18 (yg16 5 0)],[],[],[],[],[],[],[],[eI tS q25 (yg16 13 0)],[],[],[],[]]) [[20,21,22,23],[20,21,22,23],[],[],[],[18],[5,24],[21],[20,21,22,23],[20,21,22,23],[],[],[],[19],[13,24],[21],[],[]] [[],[],[],[],[],[],[],[],[],[],[],[],[],[],[],[],[],[]] [[0],[0,1],[2],[3],[3,4],[2,3,4,5],[2,3,4,5,6],[0,1,2,3,4,5,6,7],[8],[8,9],[10],[11],[11,12],[10,11,12,13],[10,11,12,13,14],[8,9,10,11,12,13,14,15],[0,1,2,3,4,5,6,7,8,9,10,11,12,13,14,15,16],[0,1,2,3,4,5,6,7,8,9,10,11,12,13,14,15,16,17]] [] (FrG.keep (ks:=[0,1,2,6]) H15 (by kernel_rfl)) (fun _ _ h => by cases h) (by kernel_rfl) hS (by kernel_rfl) rfl rfl (by kernel_rfl) (by kernel_rfl) (by kernel_rfl) (gd_none (by kernel_rfl) _ _) ?hstep_yg16 fun _ _ yg16 H32 hv hS => ?hK_yg16
   case hstep_yg16 =>
    refine ⟨se0,(se (fun _ _ => [⟨some (.map (some bu)),rA aW 0 (.map (some bu)),fun _ hS => ((hS.ro 0 rfl).at1 rfl)⟩])),se0,se0,se0,?_,(se (fun yg16 _ => [⟨some (vS y21),rB 28 [.slice (yg16 5 0).a q18.length (yg16 5 0).c] (vS y21),fun _ hS => (mU (bU:=(yg16 5 0)) m _ _ hy21 _ (s0im (s0tab s0nil (hS.at 1 rfl)) (hS.im 0 rfl)))⟩])),?_,se0,(se (fun _ _ => [⟨some (.map (some bu)),rA aW 0 (.map (some bu)),fun _ hS => ((hS.ro 0 rfl).at1 rfl)⟩])),se0,se0,se0,?_,(se (fun yg16 _ => [⟨some (vS y28),rB 28 [.slice (yg16 13 0).a q25.length (yg16 13 0).c] (vS y28),fun _ hS => (mU (bU:=(yg16 13 0)) m _ _ hy28 _ (s0im (s0tab s0nil (hS.at 1 rfl)) (hS.im 0 rfl)))⟩])),?_,se0,se0,trivial⟩
    ·intro o ho a w yg16 M Hb hv hO hS0
     obtain rfl:=someE ho
     have H:=((Hb).add (hv 2 (by decide) (by decide) 26 rfl)).add (hv 4 (by decide) (by decide) 28 rfl)
     have hS:=hS0
     have hd:=hS.hand [0] [0] rfl rfl
     refine Stp.mono (o_sub (T:=tS) (E:=9) (g:=nO) (q:=a_) (0 : Int) (w64 (v6 + 1)) .none (.some (vI (w64 (v6 + 1)))) H hd (hd.im 0 rfl) rfl rfl rfl rfl rfl rfl (.inl ⟨rfl,rfl⟩) (.inr ⟨_,rfl⟩) (by kernel_rfl) (by kernel_rfl) ho17) ?_
     rintro v w2 hq
     obtain ⟨g19,hv,hq⟩:=hq
     rw [← hq18] at hv hq
     subst hv
     replace hS:=hS.join [0] [0] rfl rfl hq
     exact ⟨gL [g19],fun _ _ => rfl,hS.sel [0,1] rfl⟩
    ·intro o ho a w yg16 M Hb hv hO hS0
     obtain rfl:=someE ho
     have H:=((Hb).add (hv 1 (by decide) (by decide) 25 rfl)).add (hv 6 (by decide) (by decide) 30 rfl)
     have hS:=hS0
     have hd:=hS.hand [0] [0] rfl rfl
     refine Stp.mono (o_lookR (c:=false) (kt:=9) (et:=3) (vI x22) (by rw [hx22]; rfl) H hd rfl rfl (by kernel_rfl) (by kernel_rfl) (by kernel_rfl)) ?_
     rintro v w2 hq
     obtain ⟨rfl,hq⟩:=hq
     replace hS:=hS.join [0] [0] rfl rfl hq
     exact ⟨gL [],fun _ _ => rfl,hS.sel [0] rfl⟩
    ·intro o ho a w yg16 M Hb hv hO hS0
     obtain rfl:=someE ho
     have H:=((Hb).add (hv 10 (by decide) (by decide) 34 rfl)).add (hv 12 (by decide) (by decide) 36 rfl)
     have hS:=hS0
     have hd:=hS.hand [0] [0] rfl rfl
     refine Stp.mono (o_sub (T:=tS) (E:=9) (g:=nv) (q:=b_) (0 : Int) (w64 (v6 + 1)) .none (.some (vI (w64 (v6 + 1)))) H hd (hd.im 0 rfl) rfl rfl rfl rfl rfl rfl (.inl ⟨rfl,rfl⟩) (.inr ⟨_,rfl⟩) (by kernel_rfl) (by kernel_rfl) ho24) ?_
     rintro v w2 hq
     obtain ⟨g26,hv,hq⟩:=hq
     rw [← hq25] at hv hq
     subst hv
     replace hS:=hS.join [0] [0] rfl rfl hq
     exact ⟨gL [g26],fun _ _ => rfl,hS.sel [0,1] rfl⟩
    ·intro o ho a w yg16 M Hb hv hO hS0
     obtain rfl:=someE ho
     have H:=((Hb).add (hv 9 (by decide) (by decide) 33 rfl)).add (hv 14 (by decide) (by decide) 38 rfl)
     have hS:=hS0
     have hd:=hS.hand [0] [0] rfl rfl
     refine Stp.mono (o_lookR (c:=false) (kt:=9) (et:=3) (vI x29) (by rw [hx29]; rfl) H hd rfl rfl (by kernel_rfl) (by kernel_rfl) (by kernel_rfl)) ?_
     rintro v w2 hq
     obtain ⟨rfl,hq⟩:=hq
     replace hS:=hS.join [0] [0] rfl rfl hq
     exact ⟨gL [],fun _ _ => rfl,hS.sel [0] rfl⟩
   have H33 : Fr 47 [(5,[],vI (w64 (x22 - x29)))] _:=(FrG.add (FrG.keep (ks:=[]) H32 (by kernel_rfl)) (hv 17 5 rfl))
   replace hS : SH M X w [eI tS q18 (yg16 5 0),eI tS q25 (yg16 13 0),eI tS a_ nO,eI tS b_ nv,Ent.ro aW [.map (some bu),vL dc dU,vL bp bQ],Ent.mpr bu eJ,eI (Ty.sl tS) dU dc,eI am bQ bp,Ent.tab 0 (Lib.pow10Tab.map fun z => Value.int .u64 z)] _:=hS
   clear hv H32
   generalize yg16 5 0 = g34 at H33 hS
   generalize yg16 13 0 = g35 at H33 hS
   replace hS:=hS.sel [2,3,4,5,6,7,8] rfl
   refine t_in H33 hS (t_ret ?_)
   obtain rfl:=someE hm
   have hm:=hm_z3
   obtain rfl:=someE hm
   exact t_n [] rs1
 ·rintro _ _ ⟨s_z3,hz,H,hS⟩
  subst hz
  replace hm:=sumR hm_z3
  replace hS:=hS.sel [0,1,6] rfl
  refine t_in H hS ?_
  refine t_r [5] [vI (w64 ((ln b_) - (ln a_)))] [] (t_sel [2] (t_ret ?_))
  obtain rfl:=someE hm
  exact t_n [] rs1

def cM (m : Nat) (a_ : Int) (aE : Mi) (al : List (List Str)) (ah : List aw) : Nat → (List (List Str)) → Int → Option (List (List Str))
  | 0,_,_ => none
  | kk + 1,v12,v15 =>
    chk ((decide (a_ < v15)) = true → 0 ≤ v15 ∧ v15 < ln v12) <|
    chk ((decide (a_ < v15)) = true → 0 ≤ (w64 (v15 - 1)) ∧ (w64 (v15 - 1)) < ln v12) <|
    Option.bind (cond (decide (a_ < v15)) (gn m (gi v12 v15) (gi v12 (w64 (v15 - 1))) aE al ah) (some default)) fun y18 =>
    lt (cond (decide (a_ < v15)) (decide (y18 < 0)) false) fun x19 =>
    cond x19 (
    chk (0 ≤ (w64 (v15 - 1)) ∧ (w64 (v15 - 1)) < ln v12) <|
    chk (0 ≤ v15 ∧ v15 < ln v12) <|
    lt (setl v12 v15 (gi v12 (w64 (v15 - 1)))) fun q28 =>
    chk (0 ≤ (w64 (v15 - 1)) ∧ (w64 (v15 - 1)) < ln q28) <|
    lt (setl q28 (w64 (v15 - 1)) (gi v12 v15)) fun q31 =>
    cM m a_ aE al ah kk q31 (w64 (v15 - 1))) (
    some v12)
def cN (m : Nat) (a_ : Int) (b_ : Int) (aE : Mi) (al : List (List Str)) (ah : List aw) : Nat → (List (List Str)) → Int → Option (List (List Str))
  | 0,_,_ => none
  | kk + 1,v3,v6 =>
    cond (decide (v6 < b_)) (
    Option.bind (
    cM m a_ aE al ah m v3 v6) fun (z9 : List (List Str)) =>
    cN m a_ b_ aE al ah kk z9 (w64 (v6 + 1))) (
    some v3)
def dd (m : Nat) (data : List (List Str)) (a_ : Int) (b_ : Int) (aE : Mi) (al : List (List Str)) (ah : List aw) : Option (List (List Str)) :=
  cN m a_ b_ aE al ah m data (w64 (a_ + 1))
theorem iv {aI : Gh} {aN : Nat} {ap : Nat} {ai : Gh} {ag : Gh} (M : Av) (m : Nat) (data : List (List Str)) (a_ : Int) (b_ : Int) (aE : Mi) (al : List (List Str)) (ah : List aw) (r : List (List Str)) (hm : dd m data a_ b_ aE al ah = some r) (w : World) (hS : S0 M [eO 55 (Ty.sl tS) data aI,eB aN [.map (some ap),.slice ai.a al.length ai.c,.slice ag.a ah.length ag.c],Ent.mpi ap aE,eI (Ty.sl tS) al ai,eI am ah ag,Ent.tab 0 (Lib.pow10Tab.map fun z => Value.int .u64 z)] w) : Calls Tryz.prog 71 ⟨[.slice aI.a data.length aI.c,vI a_,vI b_,.func (.func 35) ⟨[]⟩ ⟨[vP aN]⟩]⟩ w (fun e w' => ∃ v,e = .returned v ∧ ∃ (aA : Gh),v = vW [] ∧ (aA.a = aI.a ∧ aA.c = aI.c ∧ r.length = data.length) ∧ SH M (fpl [eO 55 (Ty.sl tS) data aI,eB aN [.map (some ap),.slice ai.a al.length ai.c,.slice ag.a ah.length ag.c],Ent.mpi ap aE,eI (Ty.sl tS) al ai,eI am ah ag,Ent.tab 0 (Lib.pow10Tab.map fun z => Value.int .u64 z)]) w [eB aN [.map (some ap),.slice ai.a al.length ai.c,.slice ag.a ah.length ag.c],Ent.mpi ap aE,eO 55 (Ty.sl tS) r aA] w'):=by
 rw [dd] at hm
 have hS0 : SH M (fpl [eO 55 (Ty.sl tS) data aI,eB aN [.map (some ap),.slice ai.a al.length ai.c,.slice ag.a ah.length ag.c],Ent.mpi ap aE,eI (Ty.sl tS) al ai,eI am ah ag,Ent.tab 0 (Lib.pow10Tab.map fun z => Value.int .u64 z)]) w [eO 55 (Ty.sl tS) data aI,eB aN [.map (some ap),.slice ai.a al.length ai.c,.slice ag.a ah.length ag.c],Ent.mpi ap aE,eI (Ty.sl tS) al ai,eI am ah ag,Ent.tab 0 (Lib.pow10Tab.map fun z => Value.int .u64 z)] w:=hS
 generalize hX : fpl [eO 55 (Ty.sl tS) data aI,eB aN [.map (some ap),.slice ai.a al.length ai.c,.slice ag.a ah.length ag.c],Ent.mpi ap aE,eI (Ty.sl tS) al ai,eI am ah ag,Ent.tab 0 (Lib.pow10Tab.map fun z => Value.int .u64 z)] = X at hS0 ⊢
 clear hS hX
 have hS:=hS0
 clear hS0
 refine calls_entryP Tryz.func71 rfl Tryz.ntmps71 rfl fun _ H => ?_
 have hf_e_data : aI.a = aI.a ∧ aI.c = aI.c ∧ data.length = data.length:=⟨rfl,rfl,rfl⟩
 refine t_in H hS ?_
 refine t_r [0,1,2,3,8] [.slice aI.a data.length aI.c,vI a_,vI b_,.func (.func 35) ⟨[]⟩ ⟨[vP aN]⟩,vI (w64 (a_ + 1))] [] (t_block ?_)
 intro _ _ H2 hS
 refine w_loop (fun kk a' w' => ∃ (v3 : List (List Str)) (v6 : Int) (g4 : Gh),cN m a_ b_ aE al ah kk v3 v6 = some _ ∧ Fr 53 (fS [1,2,3,0,8] [vI a_,vI b_,.func (.func 35) ⟨[]⟩ ⟨[vP aN]⟩,.slice g4.a v3.length g4.c,vI v6]) a' ∧ SH M X w [eO 55 (Ty.sl tS) v3 g4,eB aN [.map (some ap),.slice ai.a al.length ai.c,.slice ag.a ah.length ag.c],Ent.mpi ap aE,eI (Ty.sl tS) al ai,eI am ah ag,Ent.tab 0 (Lib.pow10Tab.map fun z => Value.int .u64 z)] w' ∧ (g4.a = aI.a ∧ g4.c = aI.c ∧ v3.length = data.length)) ⟨_,data,w64 (a_ + 1),aI,hm,FrG.keep (ks:=[1,2,3,0,8]) H2 (by kernel_rfl),hS,hf_e_data⟩ ?_
 clear hm H2 hS
 rintro kk _ _ ⟨v3,v6,g4,hm,H,hS,hf5⟩
 cases kk with
 | zero => exact noneE hm
 | succ kk =>
  rw [cN] at hm
  refine t_in H hS (t_seq ?_)
  refine t_r [0,1,2,3,8,14] [.slice g4.a v3.length g4.c,vI a_,vI b_,.func (.func 35) ⟨[]⟩ ⟨[vP aN]⟩,vI v6,vB (decide (v6 < b_))] [] ?_
  refine t_im hm (fun hm => ?_) (fun hm => ?c47)
  case c47 =>
   refine t_exit ?_
   obtain rfl:=someE hm
   intro _ _ H8 hS
   try dsimp only
   exact retR0 H8 rfl ⟨_,rfl,g4,rfl,hf5,(hS.sel [1,2,0] rfl)⟩
  refine t_skip ?_
  obtain ⟨z9,hz,hm⟩:=bindE hm
  intro _ _ H8 hS
  refine w_cut (fun a' w' => ∃ (g42 : Gh),Fr 53 (fS [1,2,3,8,0] [vI a_,vI b_,.func (.func 35) ⟨[]⟩ ⟨[vP aN]⟩,vI v6,.slice g42.a z9.length g42.c]) a' ∧ SH M X w [eO 55 (Ty.sl tS) z9 g42,eB aN [.map (some ap),.slice ai.a al.length ai.c,.slice ag.a ah.length ag.c],Ent.mpi ap aE,eI (Ty.sl tS) al ai,eI am ah ag,Ent.tab 0 (Lib.pow10Tab.map fun z => Value.int .u64 z)] w' ∧ (g42.a = aI.a ∧ g42.c = aI.c ∧ z9.length = data.length)) ?_ ?_
  ·replace hm:=hz
   refine t_in H8 hS (t_block ?_)
   refine t_r [0,1,2,3,8,9] [.slice g4.a v3.length g4.c,vI a_,vI b_,.func (.func 35) ⟨[]⟩ ⟨[vP aN]⟩,vI v6,vI v6] [] (t_block ?_)
   intro _ _ H11 hS
   refine w_loop (fun kk a' w' => ∃ (v12 : List (List Str)) (v15 : Int) (g13 : Gh),cM m a_ aE al ah kk v12 v15 = some _ ∧ Fr 53 (fS [1,2,3,8,0,9] [vI a_,vI b_,.func (.func 35) ⟨[]⟩ ⟨[vP aN]⟩,vI v6,.slice g13.a v12.length g13.c,vI v15]) a' ∧ SH M X w [eO 55 (Ty.sl tS) v12 g13,eB aN [.map (some ap),.slice ai.a al.length ai.c,.slice ag.a ah.length ag.c],Ent.mpi ap aE,eI (Ty.sl tS) al ai,eI am ah ag,Ent.tab 0 (Lib.pow10Tab.map fun z => Value.int .u64 z)] w' ∧ (g13.a = aI.a ∧ g13.c = aI.c ∧ v12.length = data.length)) ⟨_,v3,v6,g4,hm,FrG.keep (ks:=[1,2,3,8,0,9]) H11 (by kernel_rfl),hS,hf5⟩ ?_
   clear hm H11 hS
   rintro kk _ _ ⟨v12,v15,g13,hm,H,hS,hf14⟩
   cases kk with
   | zero => exact noneE hm
   | succ kk =>
    rw [cM] at hm
    refine t_in H hS (t_seq ?_)
    obtain ⟨ho16,hm⟩:=chkE hm
    obtain ⟨ho17,hm⟩:=chkE hm
    obtain ⟨y18,hy18,hm⟩:=bindE hm
    obtain ⟨x19,hx19,hm⟩:=letE hm
    refine t_dr [0,1,2,3,8,9,34] [.slice g13.a v12.length g13.c,vI a_,vI b_,.func (.func 35) ⟨[]⟩ ⟨[vP aN]⟩,vI v6,vI v15,vB x19] [kgI ((decide (a_ < v15)) = true ∧ True) 0 fun hg => (ho16 hg.1),kgJ ((decide (a_ < v15)) = true ∧ True) 0 0 fun hg => (ho16 hg.1),kgI ((decide (a_ < v15)) = true ∧ True) 0 fun hg => (ho17 hg.1),kgJ ((decide (a_ < v15)) = true ∧ True) 0 0 fun hg => (ho17 hg.1),kgr ((decide (a_ < v15)) = true ∧ True) fun _ hS hg => mc (nO:=(g13.s (v15).toNat 0)) (nv:=(g13.s ((w64 (v15 - 1))).toNat 0)) (aW:=aN) (bu:=ap) (dc:=ai) (bp:=ag) m _ _ _ _ _ _ (bT (hg.1) hy18) _ (s0im (s0im (s0ro (s0mp (s0im (s0im (s0tab s0nil (hS.at 5 rfl)) (hS.im 4 rfl)) (hS.im 3 rfl)) (hS.mi 2 rfl)) (hS.bk 1 rfl)) (sl_inn ((hS.osl 0 rfl).el (ho17 hg.1)))) (sl_inn ((hS.osl 0 rfl).el (ho16 hg.1))))] ?_ (he:=by subst hx19; kernel_rfl)
    refine t_im hm (fun hm => ?_) (fun hm => ?c40)
    case c40 =>
     refine t_exit ?_
     obtain rfl:=someE hm
     exact fun _ _ H21 hS => ⟨g13,FrG.keep (ks:=[1,2,3,8,0]) H21 (by kernel_rfl),hS,hf14⟩
    refine t_skip (t_seq (t_block ?_))
    obtain ⟨ho23,hm⟩:=chkE hm
    obtain ⟨ho25,hm⟩:=chkE hm
    obtain ⟨q28,hq28,hm⟩:=letE hm
    obtain ⟨ho29,hm⟩:=chkE hm
    obtain ⟨q31,hq31,hm⟩:=letE hm
    intro _ _ H21 hS
    refine w_dS (base:=(fS [0,1,2,3,8,9] [.slice g13.a v12.length g13.c,vI a_,vI b_,.func (.func 35) ⟨[]⟩ ⟨[vP aN]⟩,vI v6,vI v15])) (L:=[eO 55 (Ty.sl tS) v12 g13,eB aN [.map (some ap),.slice ai.a al.length ai.c,.slice ag.a ah.length ag.c],Ent.mpi ap aE,eI (Ty.sl tS) al ai,eI am ah ag,Ent.tab 0 (Lib.pow10Tab.map fun z => Value.int .u64 z)]) 18 6 (fun yg22 => [.slice g13.a v12.length g13.c,vI v15,.slice g13.a v12.length g13.c,vI v15,vI (w64 (v15 - 1)),.slice g13.a v12.length g13.c,vI v15,vI (w64 (v15 - 1)),.pointer (some ⟨ab g13.a,ao g13.a + ((w64 (v15 - 1))).toNat * 1,none⟩),.slice (g13.s ((w64 (v15 - 1))).toNat 0).a ((gi v12 (w64 (v15 - 1))).length) (g13.s ((w64 (v15 - 1))).toNat 0).c,.slice g13.a v12.length g13.c,vI v15,.pointer (some ⟨ab g13.a,ao g13.a + (v15).toNat * 1,none⟩),.slice (g13.s (v15).toNat 0).a ((gi v12 v15).length) (g13.s (v15).toNat 0).c,.pointer (some ⟨ab g13.a,ao g13.a + (v15).toNat * 1,none⟩),undef,.pointer (some ⟨ab (Gh.mk g13.a g13.c (yg22 15 0).s).a,ao (Gh.mk g13.a g13.c (yg22 15 0).s).a + ((w64 (v15 - 1))).toNat * 1,none⟩),undef]) (fun yg22 => [[],[],[],[],[],[],[],[],[],[eI tS (gi v12 (w64 (v15 - 1))) (g13.s ((w64 (v15 - 1))).toNat 0)],[],[],[],[eI tS (gi v12 v15) (g13.s (v15).toNat 0)],[],[eO 55 (Ty.sl tS) q28 (Gh.mk g13.a g13.c (yg22 15 0).s)],[],[eO 55 (Ty.sl tS) q31 (Gh.mk (Gh.mk g13.a g13.c (yg22 15 0).s).a (Gh.mk g13.a g13.c (yg22 15 0).s).c (yg22 17 0).s)]]) [[],[],[],[],[],[],[],[],[18],[18],[],[],[18],[18],[18],[9,18],[15],[13,15]] [[],[],[],[],[],[],[],[],[],[],[],[],[],[],[],[18],[],[15]] [[0],[1],[2],[3],[3,4],[5],[6],[6,7],[5,6,7,8],[5,6,7,8,9],[10],[11],[10,11,12],[10,11,12,13],[0,1,14],[0,1,5,6,7,8,9,14,15],[0,1,2,3,4,5,6,7,8,9,14,15,16],[0,1,2,3,4,5,6,7,8,9,10,11,12,13,14,15,16,17]] [] (FrG.keep (ks:=[0,1,2,3,8,9]) H21 (by kernel_rfl)) (fun _ _ h => by cases h) (by kernel_rfl) hS (by kernel_rfl) rfl rfl (by kernel_rfl) (by kernel_rfl) (by kernel_rfl) (gd_none (by kernel_rfl) _ _) ?hstep_yg22 fun _ _ yg22 H33 hv hS => ?hK_yg22
    case hstep_yg22 =>
     refine ⟨se0,se0,se0,se0,se0,se0,se0,se0,(se (fun _ _ => [⟨none,fun _ => oka g13.a ∧ 0 ≤ (w64 (v15 - 1)) ∧ (w64 (v15 - 1)) < ln v12,fun _ hS => ((hS.osl 0 rfl).oki ho23)⟩])),?_,se0,se0,(se (fun _ _ => [⟨none,fun _ => oka g13.a ∧ 0 ≤ v15 ∧ v15 < ln v12,fun _ hS => ((hS.osl 0 rfl).oki ho25)⟩])),?_,(se (fun _ _ => [⟨none,fun _ => oka g13.a ∧ 0 ≤ v15 ∧ v15 < ln v12,fun _ hS => ((hS.osl 0 rfl).oki ho25)⟩])),?_,?_,?_,trivial⟩
     ·intro o ho a w yg22 M Hb hv hO hS0
      obtain rfl:=someE ho
      have H:=(Hb).add (hv 8 (by decide) (by decide) 45 rfl)
      have hS:=hS0
      refine Stp.mono (o_evs [(.slice (g13.s ((w64 (v15 - 1))).toNat 0).a ((gi v12 (w64 (v15 - 1))).length) (g13.s ((w64 (v15 - 1))).toNat 0).c)] (.slice (g13.s ((w64 (v15 - 1))).toNat 0).a ((gi v12 (w64 (v15 - 1))).length) (g13.s ((w64 (v15 - 1))).toNat 0).c) (some (fun wz => V.at1 ⟨ab g13.a,ao g13.a + ((w64 (v15 - 1))).toNat * 1,none⟩ (.slice (g13.s ((w64 (v15 - 1))).toNat 0).a ((gi v12 (w64 (v15 - 1))).length) (g13.s ((w64 (v15 - 1))).toNat 0).c) wz)) [] H rfl (by kernel_rfl) (fun q e => by cases e; exact ((hS.osl 0 rfl).at1 ho23 0 rfl))) ?_
      rintro v w2 ⟨rfl,hq⟩
      replace hS:=hS.below hq.below
      replace hS:=hS.addIm (sl_inn ((hS.ow 0 rfl).el ho23))
      exact ⟨gL [],fun _ _ => rfl,hS.sel [0,1] rfl⟩
     ·intro o ho a w yg22 M Hb hv hO hS0
      obtain rfl:=someE ho
      have H:=(Hb).add (hv 12 (by decide) (by decide) 49 rfl)
      have hS:=hS0
      refine Stp.mono (o_evs [(.slice (g13.s (v15).toNat 0).a ((gi v12 v15).length) (g13.s (v15).toNat 0).c)] (.slice (g13.s (v15).toNat 0).a ((gi v12 v15).length) (g13.s (v15).toNat 0).c) (some (fun wz => V.at1 ⟨ab g13.a,ao g13.a + (v15).toNat * 1,none⟩ (.slice (g13.s (v15).toNat 0).a ((gi v12 v15).length) (g13.s (v15).toNat 0).c) wz)) [] H rfl (by kernel_rfl) (fun q e => by cases e; exact ((hS.osl 0 rfl).at1 ho25 0 rfl))) ?_
      rintro v w2 ⟨rfl,hq⟩
      replace hS:=hS.below hq.below
      replace hS:=hS.addIm (sl_inn ((hS.ow 0 rfl).el ho25))
      exact ⟨gL [],fun _ _ => rfl,hS.sel [0,1] rfl⟩
     ·intro o ho a w yg22 M Hb hv hO hS0
      obtain rfl:=someE ho
      have H:=((Hb).add (hv 9 (by decide) (by decide) 46 rfl)).add (hv 14 (by decide) (by decide) 51 rfl)
      have hS:=hS0
      have hd:=hS.hand [1,0] [0] rfl rfl
      refine Stp.mono (o_estore (T:=(Ty.sl tS)) (g:=g13) (q:=v12) (ix:=v15) (off:=0) (gi v12 (w64 (v15 - 1))) (gL [(g13.s ((w64 (v15 - 1))).toNat 0)]) H hd rfl rfl rfl rfl (by kernel_rfl) rfl rfl ho25 rfl (hd.im 1 rfl) rfl) ?_
      rintro v w2 hq
      obtain ⟨s27,hq⟩:=hq
      rw [← hq28] at hq
      have hn : v12.length = q28.length:=by rw [hq28,setl_len]
      clear hn
      replace hS:=hS.join [1,0] [0] rfl rfl hq
      exact ⟨gL [Gh.mk none 0 s27],(fun _ h => by cases h),hS.sel [0,1] rfl⟩
     ·intro o ho a w yg22 M Hb hv hO hS0
      obtain rfl:=someE ho
      have H:=((Hb).add (hv 2 (by decide) (by decide) 39 rfl)).add (hv 4 (by decide) (by decide) 41 rfl)
      have hn : v12.length = q28.length:=by rw [hq28,setl_len]
      first | (unfold vL at H; rw [hn] at H) | rw [hn] at H | skip
      clear hn
      have hS:=hS0
      refine Stp.mono (o_evs [] (.pointer (some ⟨ab (Gh.mk g13.a g13.c (yg22 15 0).s).a,ao (Gh.mk g13.a g13.c (yg22 15 0).s).a + ((w64 (v15 - 1))).toNat * 1,none⟩)) (some (fun _ => oka (Gh.mk g13.a g13.c (yg22 15 0).s).a ∧ 0 ≤ (w64 (v15 - 1)) ∧ (w64 (v15 - 1)) < ln q28)) [] H rfl (by kernel_rfl) (fun q e => by cases e; exact ((hS.osl 0 rfl).oki ho29))) ?_
      rintro v w2 ⟨rfl,hq⟩
      replace hS:=hS.below hq.below
      exact ⟨gL [],fun _ _ => rfl,hS.sel [0] rfl⟩
     ·intro o ho a w yg22 M Hb hv hO hS0
      obtain rfl:=someE ho
      have H:=((Hb).add (hv 13 (by decide) (by decide) 50 rfl)).add (hv 16 (by decide) (by decide) 52 rfl)
      have hn : v12.length = q28.length:=by rw [hq28,setl_len]
      first | (unfold vL at H; rw [hn] at H) | rw [hn] at H | skip
      clear hn
      have hS:=hS0
      have hd:=hS.hand [1,0] [0] rfl rfl
      refine Stp.mono (o_estore (T:=(Ty.sl tS)) (g:=(Gh.mk g13.a g13.c (yg22 15 0).s)) (q:=q28) (ix:=(w64 (v15 - 1))) (off:=0) (gi v12 v15) (gL [(g13.s (v15).toNat 0)]) H hd rfl rfl rfl rfl (by kernel_rfl) rfl rfl ho29 rfl (hd.im 1 rfl) rfl) ?_
      rintro v w2 hq
      obtain ⟨s30,hq⟩:=hq
      rw [← hq31] at hq
      have hn : q28.length = q31.length:=by rw [hq31,setl_len]
      clear hn
      replace hS:=hS.join [1,0] [0] rfl rfl hq
      exact ⟨gL [Gh.mk none 0 s30],(fun _ h => by cases h),hS.sel [0,1] rfl⟩
    have H34 : Fr 53 (fS [0,1,2,3,8,9] [.slice g13.a v12.length g13.c,vI a_,vI b_,.func (.func 35) ⟨[]⟩ ⟨[vP aN]⟩,vI v6,vI v15]) _:=(FrG.keep (ks:=[0,1,2,3,8,9]) H33 (by kernel_rfl))
    replace hS : SH M X w [eI tS (gi v12 (w64 (v15 - 1))) (g13.s ((w64 (v15 - 1))).toNat 0),eI tS (gi v12 v15) (g13.s (v15).toNat 0),eO 55 (Ty.sl tS) q31 (Gh.mk (Gh.mk g13.a g13.c (yg22 15 0).s).a (Gh.mk g13.a g13.c (yg22 15 0).s).c (yg22 17 0).s),eB aN [.map (some ap),.slice ai.a al.length ai.c,.slice ag.a ah.length ag.c],Ent.mpi ap aE,eI (Ty.sl tS) al ai,eI am ah ag,Ent.tab 0 (Lib.pow10Tab.map fun z => Value.int .u64 z)] _:=hS
    clear hv H33
    have hn : v12.length = q28.length:=by rw [hq28,setl_len]
    first | (unfold vL at hS; rw [hn] at hS) | rw [hn] at hS | skip
    first | (unfold vL at H34; rw [hn] at H34) | rw [hn] at H34 | skip
    clear hn
    have hn : q28.length = q31.length:=by rw [hq31,setl_len]
    first | (unfold vL at hS; rw [hn] at hS) | rw [hn] at hS | skip
    first | (unfold vL at H34; rw [hn] at H34) | rw [hn] at H34 | skip
    clear hn
    replace hS : SH M X w [eI tS (gi v12 (w64 (v15 - 1))) (g13.s ((w64 (v15 - 1))).toNat 0),eI tS (gi v12 v15) (g13.s (v15).toNat 0),eO 55 (Ty.sl tS) q31 (Gh.mk (Gh.mk g13.a g13.c (yg22 15 0).s).a (Gh.mk g13.a g13.c (yg22 15 0).s).c (yg22 17 0).s),eB aN [.map (some ap),.slice ai.a al.length ai.c,.slice ag.a ah.length ag.c],Ent.mpi ap aE,eI (Ty.sl tS) al ai,eI am ah ag,Ent.tab 0 (Lib.pow10Tab.map fun z => Value.int .u64 z)] _:=hS
    generalize yg22 15 0 = g35 at H34 hS
    generalize yg22 17 0 = g36 at H34 hS
    have hf37 : (Gh.mk (Gh.mk g13.a g13.c g35.s).a (Gh.mk g13.a g13.c g35.s).c g36.s).a = aI.a ∧ (Gh.mk (Gh.mk g13.a g13.c g35.s).a (Gh.mk g13.a g13.c g35.s).c g36.s).c = aI.c ∧ q31.length = data.length:=⟨hf14.1,hf14.2.1,by rw [hq31,setl_len,hq28,setl_len]; exact hf14.2.2⟩
    replace hS:=hS.sel [2,3,4,5,6,7] rfl
    refine t_in H34 hS ?_
    refine t_w [0,1,2,3,8,9] [.slice (Gh.mk (Gh.mk g13.a g13.c g35.s).a (Gh.mk g13.a g13.c g35.s).c g36.s).a q31.length (Gh.mk (Gh.mk g13.a g13.c g35.s).a (Gh.mk g13.a g13.c g35.s).c g36.s).c,vI a_,vI b_,.func (.func 35) ⟨[]⟩ ⟨[vP aN]⟩,vI v6,vI (w64 (v15 - 1))] [] ?_
    exact fun _ _ H39 hS => ⟨_,Nat.lt_succ_self _,q31,w64 (v15 - 1),(Gh.mk (Gh.mk g13.a g13.c g35.s).a (Gh.mk g13.a g13.c g35.s).c g36.s),hm,FrG.keep (ks:=[1,2,3,8,0,9]) H39 (by kernel_rfl),hS,hf37⟩
  ·rintro _ _ ⟨g42,H,hS,hf43⟩
   refine t_in H hS ?_
   refine t_w [0,1,2,3,8] [.slice g42.a z9.length g42.c,vI a_,vI b_,.func (.func 35) ⟨[]⟩ ⟨[vP aN]⟩,vI (w64 (v6 + 1))] [] ?_
   exact fun _ _ H45 hS => ⟨_,Nat.lt_succ_self _,z9,w64 (v6 + 1),g42,hm,FrG.keep (ks:=[1,2,3,0,8]) H45 (by kernel_rfl),hS,hf43⟩
theorem iq {aI : Gh} {aN : Nat} {ap : Nat} {ai : Gh} {ag : Gh} (m : Nat) (data : List (List Str)) (a_ : Int) (b_ : Int) (aE : Mi) (al : List (List Str)) (ah : List aw) (r : List (List Str)) (hm : dd m data a_ b_ aE al ah = some r) (M : Av) (w : World) (hS : S0 M [eO 55 (Ty.sl tS) data aI,eB aN [.map (some ap),vL ai al,vL ag ah],Ent.mpi ap aE,eI (Ty.sl tS) al ai,eI am ah ag,Ent.tab 0 (Lib.pow10Tab.map fun z => Value.int .u64 z)] w) : DoesX Tryz.prog 71 ⟨[vL aI data,vI a_,vI b_,.func (.func 35) ⟨[]⟩ ⟨[vP aN]⟩]⟩ w (fun v w' => ∃ (aA : Gh),v = vW [] ∧ (aA.a = aI.a ∧ aA.c = aI.c ∧ r.length = data.length) ∧ SH M (fpl [eO 55 (Ty.sl tS) data aI,eB aN [.map (some ap),vL ai al,vL ag ah],Ent.mpi ap aE,eI (Ty.sl tS) al ai,eI am ah ag,Ent.tab 0 (Lib.pow10Tab.map fun z => Value.int .u64 z)]) w [eB aN [.map (some ap),vL ai al,vL ag ah],Ent.mpi ap aE,eO 55 (Ty.sl tS) r aA] w'):=⟨Tryz.call71 _,iv M m   data a_ b_ aE al ah r hm w hS⟩

def eG (m : Nat) (data : List (List Str)) (aE : Mi) (al : List (List Str)) (ah : List aw) : Nat → Int → Int → Int → Bool → Bool → Option (List (List Str))
  | 0,_,_,_,_,_ => none
  | kk + 1,v5,v6,v7,v8,v9 =>
    cond (decide ((w64 (v6 - v5)) ≤ 12)) (
    Option.bind (dd m data v5 v6 aE al ah) fun y16 =>
    some y16) (
    none)
def dV (m : Nat) (data : List (List Str)) (a_ : Int) (b_ : Int) (dn : Int) (aE : Mi) (al : List (List Str)) (ah : List aw) : Option (List (List Str)) :=
  eG m data aE al ah m a_ b_ dn true true
theorem k9 {aI : Gh} {aN : Nat} {ap : Nat} {ai : Gh} {ag : Gh} (M : Av) (m : Nat) (data : List (List Str)) (a_ : Int) (b_ : Int) (dn : Int) (aE : Mi) (al : List (List Str)) (ah : List aw) (r : List (List Str)) (hm : dV m data a_ b_ dn aE al ah = some r) (w : World) (hS : S0 M [eO 55 (Ty.sl tS) data aI,eB aN [.map (some ap),vL ai al,vL ag ah],Ent.mpi ap aE,eI (Ty.sl tS) al ai,eI am ah ag,Ent.tab 0 (Lib.pow10Tab.map fun z => Value.int .u64 z)] w) : Calls Tryz.prog 48 ⟨[vL aI data,vI a_,vI b_,vI dn,.func (.func 35) ⟨[]⟩ ⟨[vP aN]⟩]⟩ w (fun e w' => ∃ v,e = .returned v ∧ ∃ (aA : Gh),v = vW [] ∧ (aA.a = aI.a ∧ aA.c = aI.c ∧ r.length = data.length) ∧ SH M (fpl [eO 55 (Ty.sl tS) data aI,eB aN [.map (some ap),vL ai al,vL ag ah],Ent.mpi ap aE,eI (Ty.sl tS) al ai,eI am ah ag,Ent.tab 0 (Lib.pow10Tab.map fun z => Value.int .u64 z)]) w [eB aN [.map (some ap),vL ai al,vL ag ah],Ent.mpi ap aE,eO 55 (Ty.sl tS) r aA] w'):=by
 rw [dV] at hm
 have hS0 : SH M (fpl [eO 55 (Ty.sl tS) data aI,eB aN [.map (some ap),vL ai al,vL ag ah],Ent.mpi ap aE,eI (Ty.sl tS) al ai,eI am ah ag,Ent.tab 0 (Lib.pow10Tab.map fun z => Value.int .u64 z)]) w [eO 55 (Ty.sl tS) data aI,eB aN [.map (some ap),vL ai al,vL ag ah],Ent.mpi ap aE,eI (Ty.sl tS) al ai,eI am ah ag,Ent.tab 0 (Lib.pow10Tab.map fun z => Value.int .u64 z)] w:=hS
 generalize hX : fpl [eO 55 (Ty.sl tS) data aI,eB aN [.map (some ap),vL ai al,vL ag ah],Ent.mpi ap aE,eI (Ty.sl tS) al ai,eI am ah ag,Ent.tab 0 (Lib.pow10Tab.map fun z => Value.int .u64 z)] = X at hS0 ⊢
 clear hS hX
 have hS:=hS0
 clear hS0
 refine calls_entryP Tryz.func48 rfl Tryz.ntmps48 rfl fun _ H => ?_
 have hf_e_data : aI.a = aI.a ∧ aI.c = aI.c ∧ data.length = data.length:=⟨rfl,rfl,rfl⟩
 refine t_in H hS ?_
 refine t_r [0,1,2,3,4,10] [vL aI data,vI a_,vI b_,vI dn,.func (.func 35) ⟨[]⟩ ⟨[vP aN]⟩,vT] [] ?_
 refine t_r [0,1,2,3,4,10,11] [vL aI data,vI a_,vI b_,vI dn,.func (.func 35) ⟨[]⟩ ⟨[vP aN]⟩,vT,vT] [] (t_block ?_)
 intro _ _ H4 hS
 refine w_loop (fun kk a' w' => ∃ (v5 : Int) (v6 : Int) (v7 : Int) (v8 : Bool) (v9 : Bool),eG m data aE al ah kk v5 v6 v7 v8 v9 = some _ ∧ Fr 148 (fS [0,4,1,2,3,10,11] [vL aI data,.func (.func 35) ⟨[]⟩ ⟨[vP aN]⟩,vI v5,vI v6,vI v7,vB v8,vB v9]) a' ∧ SH M X w [eO 55 (Ty.sl tS) data aI,eB aN [.map (some ap),vL ai al,vL ag ah],Ent.mpi ap aE,eI (Ty.sl tS) al ai,eI am ah ag,Ent.tab 0 (Lib.pow10Tab.map fun z => Value.int .u64 z)] w' ∧ (aI.a = aI.a ∧ aI.c = aI.c ∧ data.length = data.length)) ⟨_,a_,b_,dn,true,true,hm,FrG.keep (ks:=[0,4,1,2,3,10,11]) H4 (by kernel_rfl),hS,hf_e_data⟩ ?_
 clear hm H4 hS
 rintro kk _ _ ⟨v5,v6,v7,v8,v9,hm,H,hS,hf_e_data⟩
 cases kk with
 | zero => exact noneE hm
 | succ kk =>
  rw [eG] at hm
  refine t_in H hS (t_block ?_)
  refine t_r [0,1,2,3,4,10,11,12] [vL aI data,vI v5,vI v6,vI v7,.func (.func 35) ⟨[]⟩ ⟨[vP aN]⟩,vB v8,vB v9,vI (w64 (v6 - v5))] [] (t_seq ?_)
  refine t_r [0,1,2,3,4,10,11,12,25] [vL aI data,vI v5,vI v6,vI v7,.func (.func 35) ⟨[]⟩ ⟨[vP aN]⟩,vB v8,vB v9,vI (w64 (v6 - v5)),vB (decide ((w64 (v6 - v5)) ≤ 12))] [] ?_
  refine t_im hm (fun hm => ?_) (fun hm => ?c22)
  case c22 =>
   refine t_skip (t_seq ?_)
   intro _ _ H13 hS
   exact noneE hm
  refine t_starts ?_
  refine t_b 4 [26,27,28,29] [vL aI data,vI v5,vI v6,.func (.func 35) ⟨[]⟩ ⟨[vP aN]⟩] [] ?_
  obtain ⟨y16,hy16,hm⟩:=bindE hm
  intro _ _ H15 hS
  have hd:=hS.hand [0,1,2,3,4,5] [3,4,5] rfl rfl
  refine m_stp [30] [] H15 rfl rfl rfl rfl (o_callx H15 rfl rfl (iq (aI:=aI) (aN:=aN) (ap:=ap) (ai:=ai) (ag:=ag) m _ _ _ _ _ _ _ hy16 _ _ hd)) (fun _ => rfl) fun _ _ v H19 hq => ?_
  obtain ⟨g17,rfl,hb20,hq⟩:=hq
  first | (unfold vL at H19; rw [← hb20.1,← hb20.2.1,← hb20.2.2] at H19) | rw [← hb20.1,← hb20.2.1,← hb20.2.2] at H19 | skip
  first | (unfold vL at hS; rw [← hb20.1,← hb20.2.1,← hb20.2.2] at hS) | rw [← hb20.1,← hb20.2.1,← hb20.2.2] at hS | skip
  have hf21 : g17.a = aI.a ∧ g17.c = aI.c ∧ y16.length = data.length:=⟨hb20.1.trans hf_e_data.1,hb20.2.1.trans hf_e_data.2.1,hb20.2.2.trans hf_e_data.2.2⟩
  replace hS:=hS.join [0,1,2,3,4,5] [3,4,5] rfl rfl hq
  refine t_in H19 hS (t_end (t_ret ?_))
  obtain rfl:=someE hm
  intro _ _ H19 hS
  try dsimp only
  exact retR0 H19 rfl ⟨_,rfl,g17,rfl,hf21,(hS.sel [0,1,2] rfl)⟩
theorem jK {aI : Gh} {aN : Nat} {ap : Nat} {ai : Gh} {ag : Gh} (m : Nat) (data : List (List Str)) (a_ : Int) (b_ : Int) (dn : Int) (aE : Mi) (al : List (List Str)) (ah : List aw) (r : List (List Str)) (hm : dV m data a_ b_ dn aE al ah = some r) (M : Av) (w : World) (hS : S0 M [eO 55 (Ty.sl tS) data aI,eB aN [.map (some ap),vL ai al,vL ag ah],Ent.mpi ap aE,eI (Ty.sl tS) al ai,eI am ah ag,Ent.tab 0 (Lib.pow10Tab.map fun z => Value.int .u64 z)] w) : DoesX Tryz.prog 48 ⟨[vL aI data,vI a_,vI b_,vI dn,.func (.func 35) ⟨[]⟩ ⟨[vP aN]⟩]⟩ w (fun v w' => ∃ (aA : Gh),v = vW [] ∧ (aA.a = aI.a ∧ aA.c = aI.c ∧ r.length = data.length) ∧ SH M (fpl [eO 55 (Ty.sl tS) data aI,eB aN [.map (some ap),vL ai al,vL ag ah],Ent.mpi ap aE,eI (Ty.sl tS) al ai,eI am ah ag,Ent.tab 0 (Lib.pow10Tab.map fun z => Value.int .u64 z)]) w [eB aN [.map (some ap),vL ai al,vL ag ah],Ent.mpi ap aE,eO 55 (Ty.sl tS) r aA] w'):=⟨Tryz.call48 _,k9 M m   data a_ b_ dn aE al ah r hm w hS⟩

def dP (m : Nat) (x_ : List (List Str)) (aE : Mi) (al : List (List Str)) (ah : List aw) : Option (List (List Str)) :=
  Option.bind (mS (wu64 (ln x_))) fun y3 =>
  Option.bind (dV m x_ 0 (ln x_) y3 aE al ah) fun y6 =>
  some y6
theorem jM {dG : Gh} {aN : Nat} {ap : Nat} {ai : Gh} {ag : Gh} (M : Av) (m : Nat) (x_ : List (List Str)) (aE : Mi) (al : List (List Str)) (ah : List aw) (r : List (List Str)) (hm : dP m x_ aE al ah = some r) (w : World) (hS : S0 M [eO 55 (Ty.sl tS) x_ dG,eB aN [.map (some ap),vL ai al,vL ag ah],Ent.mpi ap aE,eI (Ty.sl tS) al ai,eI am ah ag,Ent.tab 0 (Lib.pow10Tab.map fun z => Value.int .u64 z)] w) : Calls Tryz.prog 34 ⟨[vL dG x_,.func (.func 35) ⟨[]⟩ ⟨[vP aN]⟩]⟩ w (fun e w' => ∃ v,e = .returned v ∧ ∃ (aA : Gh),v = vW [] ∧ (aA.a = dG.a ∧ aA.c = dG.c ∧ r.length = x_.length) ∧ SH M (fpl [eO 55 (Ty.sl tS) x_ dG,eB aN [.map (some ap),vL ai al,vL ag ah],Ent.mpi ap aE,eI (Ty.sl tS) al ai,eI am ah ag,Ent.tab 0 (Lib.pow10Tab.map fun z => Value.int .u64 z)]) w [eB aN [.map (some ap),vL ai al,vL ag ah],Ent.mpi ap aE,eO 55 (Ty.sl tS) r aA] w'):=by
 rw [dP] at hm
 have hS0 : SH M (fpl [eO 55 (Ty.sl tS) x_ dG,eB aN [.map (some ap),vL ai al,vL ag ah],Ent.mpi ap aE,eI (Ty.sl tS) al ai,eI am ah ag,Ent.tab 0 (Lib.pow10Tab.map fun z => Value.int .u64 z)]) w [eO 55 (Ty.sl tS) x_ dG,eB aN [.map (some ap),vL ai al,vL ag ah],Ent.mpi ap aE,eI (Ty.sl tS) al ai,eI am ah ag,Ent.tab 0 (Lib.pow10Tab.map fun z => Value.int .u64 z)] w:=hS
 generalize hX : fpl [eO 55 (Ty.sl tS) x_ dG,eB aN [.map (some ap),vL ai al,vL ag ah],Ent.mpi ap aE,eI (Ty.sl tS) al ai,eI am ah ag,Ent.tab 0 (Lib.pow10Tab.map fun z => Value.int .u64 z)] = X at hS0 ⊢
 clear hS hX
 have hS:=hS0
 clear hS0
 refine calls_entryP Tryz.func34 rfl Tryz.ntmps34 rfl fun _ H => ?_
 have hf_e_x_ : dG.a = dG.a ∧ dG.c = dG.c ∧ x_.length = x_.length:=⟨rfl,rfl,rfl⟩
 refine t_in H hS ?_
 refine t_r [0,1,4] [vL dG x_,.func (.func 35) ⟨[]⟩ ⟨[vP aN]⟩,vI (ln x_)] [] (t_start ?_)
 obtain ⟨y3,hy3,hm⟩:=bindE hm
 refine t_b 6 [7,8,11,12] [vL dG x_,vI (ln x_),vI y3,.func (.func 35) ⟨[]⟩ ⟨[vP aN]⟩] [kc (qJ _ _ hy3)] ?_
 obtain ⟨y6,hy6,hm⟩:=bindE hm
 intro _ _ H5 hS
 have hd:=hS.hand [0,1,2,3,4,5] [3,4,5] rfl rfl
 refine m_stp [13] [] H5 rfl rfl rfl rfl (o_callx H5 rfl rfl (jK (aI:=dG) (aN:=aN) (ap:=ap) (ai:=ai) (ag:=ag) m _ _ _ _ _ _ _ _ hy6 _ _ hd)) (fun _ => rfl) fun _ _ v H9 hq => ?_
 obtain ⟨g7,rfl,hb10,hq⟩:=hq
 first | (unfold vL at H9; rw [← hb10.1,← hb10.2.1,← hb10.2.2] at H9) | rw [← hb10.1,← hb10.2.1,← hb10.2.2] at H9 | skip
 first | (unfold vL at hS; rw [← hb10.1,← hb10.2.1,← hb10.2.2] at hS) | rw [← hb10.1,← hb10.2.1,← hb10.2.2] at hS | skip
 have hf11 : g7.a = dG.a ∧ g7.c = dG.c ∧ y6.length = x_.length:=⟨hb10.1.trans hf_e_x_.1,hb10.2.1.trans hf_e_x_.2.1,hb10.2.2.trans hf_e_x_.2.2⟩
 replace hS:=hS.join [0,1,2,3,4,5] [3,4,5] rfl rfl hq
 refine t_in H9 hS (t_end ?_)
 obtain rfl:=someE hm
 intro _ _ H9 hS
 try dsimp only
 exact retR0 H9 rfl ⟨_,rfl,g7,rfl,hf11,(hS.sel [0,1,2] rfl)⟩
theorem jh {dG : Gh} {aN : Nat} {ap : Nat} {ai : Gh} {ag : Gh} (m : Nat) (x_ : List (List Str)) (aE : Mi) (al : List (List Str)) (ah : List aw) (r : List (List Str)) (hm : dP m x_ aE al ah = some r) (M : Av) (w : World) (hS : S0 M [eO 55 (Ty.sl tS) x_ dG,eB aN [.map (some ap),vL ai al,vL ag ah],Ent.mpi ap aE,eI (Ty.sl tS) al ai,eI am ah ag,Ent.tab 0 (Lib.pow10Tab.map fun z => Value.int .u64 z)] w) : DoesX Tryz.prog 34 ⟨[vL dG x_,.func (.func 35) ⟨[]⟩ ⟨[vP aN]⟩]⟩ w (fun v w' => ∃ (aA : Gh),v = vW [] ∧ (aA.a = dG.a ∧ aA.c = dG.c ∧ r.length = x_.length) ∧ SH M (fpl [eO 55 (Ty.sl tS) x_ dG,eB aN [.map (some ap),vL ai al,vL ag ah],Ent.mpi ap aE,eI (Ty.sl tS) al ai,eI am ah ag,Ent.tab 0 (Lib.pow10Tab.map fun z => Value.int .u64 z)]) w [eB aN [.map (some ap),vL ai al,vL ag ah],Ent.mpi ap aE,eO 55 (Ty.sl tS) r aA] w'):=⟨Tryz.call34 _,jM M m   x_ aE al ah r hm w hS⟩

def fJ (m : Nat) (sG : Mi) (mp : List (List Str)) (nh : List aw) : Option (List (List Str)) :=
  Option.bind (f2 mp) fun y8 =>
  Option.bind (dP m y8 sG mp nh) fun y17 =>
  some y17
theorem iS {m8 : Nat} {iT : Gh} {k6 : Gh} (m : Nat) (sG : Mi) (mp : List (List Str)) (nh : List aw) (r : List (List Str)) (hm : fJ m sG mp nh = some r) : DoesM Tryz.prog 16 ⟨[vG [.map (some m8),vL iT mp,vL k6 nh]]⟩ [Ent.mpi m8 sG,eI (Ty.sl tS) mp iT,eI am nh k6,Ent.tab 0 (Lib.pow10Tab.map fun z => Value.int .u64 z)] (fun (aA : Gh) => vL aA r) (fun aA => [eO 55 (Ty.sl tS) r aA,Ent.mpi m8 sG]):=by
 rw [fJ] at hm
 refine f_mem (Tryz.call16 _) Tryz.func16 Tryz.ntmps16 fun M X w => (t_starts ?_)
 refine t_m [] [0,1,2,3] [] [] (fun _ _ H hd => o_box [.map (some m8),vL iT mp,vL k6 nh] H hd rfl rfl) fun b1 => ?_
 refine t_b 2 [1] [vP b1] [] (t_end (t_starts ?_))
 refine t_b 2 [1,5] [vP b1,vL iT mp] [kb 0 1] ?_
 obtain ⟨y8,hy8,hm⟩:=bindE hm
 refine t_c [2] [0,1,2,3,4] [1] [vP b1] (jL (g_s:=iT) _ _ hy8) fun g9 => ?_
 refine t_b 4 [1,3] [vP b1,vL g9 y8] [] (t_end (t_starts ?_))
 refine t_b 2 [3,7,8] [vL g9 y8,vL g9 y8,.func (.func 35) ⟨[]⟩ ⟨[vP b1]⟩] [] ?_
 obtain ⟨y17,hy17,hm⟩:=bindE hm
 intro _ _ H16 hS
 have hd:=hS.hand [0,1,2,3,4,5] [3,4,5] rfl rfl
 refine m_stp [9,3] [(3,[],vL g9 y8)] H16 rfl rfl rfl rfl (o_callx H16 rfl rfl (jh (dG:=g9) (aN:=b1) (ap:=m8) (ai:=iT) (ag:=k6) m _ _ _ _ _ hy17 _ _ hd)) (fun _ => rfl) fun _ _ v H20 hq => ?_
 obtain ⟨g18,rfl,hb21,hq⟩:=hq
 first | (unfold vL at H20; rw [← hb21.1,← hb21.2.1,← hb21.2.2] at H20) | rw [← hb21.1,← hb21.2.1,← hb21.2.2] at H20 | skip
 first | (unfold vL at hS; rw [← hb21.1,← hb21.2.1,← hb21.2.2] at hS) | rw [← hb21.1,← hb21.2.1,← hb21.2.2] at hS | skip
 replace hS:=hS.join [0,1,2,3,4,5] [3,4,5] rfl rfl hq
 refine t_in H20 hS (t_end (t_sel [1,2,5] ?_))
 refine t_r [2] [vL g18 y17] [] (t_ret ?_)
 obtain rfl:=someE hm
 exact t_g g18 [1,0] rs1

def fL (m : Nat) (l_ : List bM) (e_ : iu) (bv : Int) : Option ((List (List Str)) × Int) :=
  Option.bind (gp m l_) fun y6 =>
  cond (y6 != 0) (
  some (([] : List (List Str)),y6)) (
  lt (cond (!(fM e_)) true (decide (bv < 1))) fun x14 =>
  cond (cond x14 true (decide (3 < bv))) (
  some (([] : List (List Str)),2)) (
  Option.bind (i7 m l_ e_ bv) fun y22 =>
  Option.bind (fJ m y22.1 y22.2.1 y22.2.2) fun y30 =>
  some (y30,0)))
theorem fv {aa : Gh} (m : Nat) (l_ : List bM) (e_ : iu) (bv : Int) (r : (List (List Str)) × Int) (hm : fL m l_ e_ bv = some r) : DoesM Tryz.prog 8 ⟨[vL aa l_,vG [vI e_.ct],vU bv]⟩ [eI bx l_ aa,gE4,Ent.tab 0 (Lib.pow10Tab.map fun z => Value.int .u64 z)] (fun (aA : Gh) => vW [vL aA r.1,vI r.2]) (fun aA => [eO 55 (Ty.sl tS) r.1 aA]):=by
 rw [fL] at hm
 refine f_mem (Tryz.call8 _) Tryz.func8 Tryz.ntmps8 fun M X w => (t_starts ?_)
 refine t_m [] [0,1,2] [0,2] [vL aa l_,vU bv] (fun _ _ H hd => o_box [vI e_.ct] H hd rfl rfl) fun b1 => ?_
 refine t_b 3 [0,2,4] [vL aa l_,vU bv,vP b1] [] (t_end (t_seq ?_))
 obtain ⟨y6,hy6,hm⟩:=bindE hm
 refine t_r [0,2,4,8] [vL aa l_,vU bv,vP b1,vI y6] [kr fun _ hS => gw (aa:=aa) m _ _ hy6 _ (s0im s0nil (hS.im 1 rfl))] ?_
 refine t_r [0,2,4,8,12] [vL aa l_,vU bv,vP b1,vI y6,vB (y6 != 0)] [] ?_
 refine t_im hm (fun hm => ?c38) (fun hm => ?_)
 case c38 =>
  refine t_r [6,7] [vO,vI y6] [] (t_sel [2,3] (t_ret ?_))
  obtain rfl:=someE hm
  refine t_nil 55 (Ty.sl tS) ?_
  exact t_g Gh.nil [0] rs2
 refine t_skip (t_seq ?_)
 obtain ⟨x14,hx14,hm⟩:=letE hm
 refine t_r [0,2,4,24] [vL aa l_,vU bv,vP b1,vB (cond x14 true (decide (3 < bv)))] [kE 0 1,kc (l7 e_)] ?_ (he:=by subst hx14; kernel_rfl)
 refine t_im hm (fun hm => ?c37) (fun hm => ?_)
 case c37 =>
  refine t_r [6,7] [vO,vI 2] [] (t_sel [2,3] (t_ret ?_))
  obtain rfl:=someE hm
  refine t_nil 55 (Ty.sl tS) ?_
  exact t_g Gh.nil [0] rs2
 refine t_skip (t_starts ?_)
 refine t_b 3 [25,26,27] [vL aa l_,vG [vI e_.ct],vU bv] [kE 0 1] ?_
 obtain ⟨y22,hy22,hm⟩:=bindE hm
 intro _ _ H21 hS
 have hd:=hS.hand [1,2,3] [0,1,2,3] rfl rfl
 refine m_stp [28] [] H21 rfl rfl rfl rfl (o_callx H21 rfl rfl (my (aa:=aa) m _ _ _ _ hy22 _ _ hd)) (fun _ => rfl) fun _ _ v H29 hq => ?_
 obtain ⟨b23,g24,g26,rfl,hq⟩:=hq
 replace hS:=hS.join [1,2,3] [0,1,2,3] rfl rfl hq
 replace hS:=SH.frz1 (hS.sel [1,0,2,3,4,5,6] rfl)
 replace hS:=SH.frz1 (hS.sel [2,0,1,3,4,5,6] rfl)
 obtain ⟨y30,hy30,hm⟩:=bindE hm
 refine t_in H29 hS ?_
 refine t_c [2,1,0,6] [0,1,3,4,5,6] [] [] (iS (m8:=b23) (iT:=g24) (k6:=g26) m _ _ _ _ hy30) fun g31 => ?_
 refine t_b 7 [6,7] [vL g31 y30,vI 0] [] (t_end (t_sel [0,6,7] (t_ret ?_)))
 obtain rfl:=someE hm
 exact t_g g31 [0] rs2

def iK (m : Nat) (y5 : (List (List Str)) × Int) (v18 : Int) : Nat → Str → Int → Option (Str)
  | 0,_,_ => none
  | kk + 1,v27,v28 =>
    chk (0 ≤ v18 ∧ v18 < ln y5.1) <|
    cond (decide (v28 < (ln (gi y5.1 v18)))) (
    Option.bind (
    cond (decide (0 < v28)) (
    chk (ln v27 + ln [47] ≤ 9223372036854775807) <|
    some (v27 ++ [47])) (
    some v27)) fun (z32 : Str) =>
    chk (0 ≤ v28 ∧ v28 < ln (gi y5.1 v18)) <|
    chk (ln z32 + ln (gi (gi y5.1 v18) v28) ≤ 9223372036854775807) <|
    iK m y5 v18 kk (z32 ++ (gi (gi y5.1 v18) v28)) (w64 (v28 + 1))) (
    some v27)
def iO (m : Nat) (want : List Str) (y5 : (List (List Str)) × Int) : Nat → Int → Option (Unit)
  | 0,_ => none
  | kk + 1,v18 =>
    cond (decide (v18 < (ln y5.1))) (
    Option.bind (
    Option.bind (
    iK m y5 v18 m [] 0) fun (z24 : Str) =>
    chk (0 ≤ v18 ∧ v18 < ln want) <|
    cond (!(z24 == (gi want v18))) (
    none) (
    some ())) fun (z21 : Unit) =>
    iO m want y5 kk (w64 (v18 + 1))) (
    some ())
def eP (m : Nat) (l_ : List bM) (want : List Str) : Option (Bool) :=
  Option.bind (fL m l_ (iu.mk 800) 3) fun y5 =>
  lt (cond (y5.2 != 0) true ((ln y5.1) != (ln want))) fun x12 =>
  cond x12 (
  none) (
  Option.bind (
  iO m want y5 m 0) fun (z15 : Unit) =>
  some true)
theorem eF {aa : Gh} {bN : Gh} (m : Nat) (l_ : List bM) (want : List Str) (r : Bool) (hm : eP m l_ want = some r) (w : World) (hL : S0 F0 [eI bx l_ aa,eI tS want bN,gE4,Ent.tab 0 (Lib.pow10Tab.map fun z => Value.int .u64 z)] w ∧ fpl [eI bx l_ aa,eI tS want bN,gE4,Ent.tab 0 (Lib.pow10Tab.map fun z => Value.int .u64 z)] = []) : RetB Tryz.prog 4 ⟨[vL aa l_,vL bN want]⟩ (vB r) w:=by
 rw [eP] at hm
 refine f_read hL (Tryz.call4 _) Tryz.func4 Tryz.ntmps4 fun M X w => ?_
 refine t_r [0,1] [vL aa l_,vL bN want] [] (t_starts ?_)
 refine t_b 2 [1,11,12] [vL bN want,vL aa l_,vG [vI 800]] [] ?_
 obtain ⟨y5,hy5,hm⟩:=bindE hm
 refine t_c [0,2,3] [0,1,2,3] [1] [vL bN want] (fv (aa:=aa) m _ _ _ _ hy5) fun g6 => ?_
 refine t_b 8 [1,5,6] [vL bN want,vL g6 y5.1,vI y5.2] [] (t_end (t_sel [0,2,3,4] (t_seq ?_)))
 obtain ⟨x12,hx12,hm⟩:=letE hm
 refine t_r [1,5,24] [vL bN want,vL g6 y5.1,vB x12] [] ?_ (he:=by subst hx12; kernel_rfl)
 refine t_i2 hm (fun hm => ?_)
 refine t_skip ?_
 obtain ⟨z15,hz,hm⟩:=bindE hm
 refine t_cut [] [] [eO 55 (Ty.sl tS) y5.1 g6,eI tS want bN,gE4,Ent.tab 0 (Lib.pow10Tab.map fun z => Value.int .u64 z)] ?_ ?_
 ·replace hm:=hz
  refine t_r [1,5,7] [vL bN want,vL g6 y5.1,vI 0] [] (t_block ?_)
  intro _ _ H17 hS
  refine w_loop (fun kk a' w' => ∃ (v18 : Int),iO m want y5 kk v18 = some _ ∧ Fr 59 (fS [1,5,7] [vL bN want,vL g6 y5.1,vI v18]) a' ∧ SH M X w [eO 55 (Ty.sl tS) y5.1 g6,eI tS want bN,gE4,Ent.tab 0 (Lib.pow10Tab.map fun z => Value.int .u64 z)] w') ⟨_,0,hm,FrG.keep (ks:=[1,5,7]) H17 (by kernel_rfl),hS⟩ ?_
  clear hm H17 hS
  rintro kk _ _ ⟨v18,hm,H,hS⟩
  cases kk with
  | zero => exact noneE hm
  | succ kk =>
   rw [iO] at hm
   refine t_in H hS (t_seq ?_)
   refine t_r [1,5,7,28] [vL bN want,vL g6 y5.1,vI v18,vB (decide (v18 < (ln y5.1)))] [] ?_
   refine t_im hm (fun hm => ?_) (fun hm => ?c56)
   case c56 =>
    refine t_exit ?_
    obtain rfl:=someE hm
    exact t_e []
   refine t_skip ?_
   obtain ⟨z21,hz,hm⟩:=bindE hm
   refine t_cut [1,5,7] [vL bN want,vL g6 y5.1,vI v18] [eO 55 (Ty.sl tS) y5.1 g6,eI tS want bN,gE4,Ent.tab 0 (Lib.pow10Tab.map fun z => Value.int .u64 z)] ?_ ?_
   ·replace hm:=hz
    refine t_block ?_
    refine t_r [1,5,7,8] [vL bN want,vL g6 y5.1,vI v18,vN] [] ?_
    obtain ⟨z24,hz,hm⟩:=bindE hm
    refine t_cut [1,5,7,8] [vL bN want,vL g6 y5.1,vI v18,vS z24] [eO 55 (Ty.sl tS) y5.1 g6,eI tS want bN,gE4,Ent.tab 0 (Lib.pow10Tab.map fun z => Value.int .u64 z)] ?_ ?_
    ·replace hm:=hz
     refine t_r [1,5,7,8,9] [vL bN want,vL g6 y5.1,vI v18,vN,vI 0] [] (t_block ?_)
     intro _ _ H26 hS
     refine w_loop (fun kk a' w' => ∃ (v27 : Str) (v28 : Int),iK m y5 v18 kk v27 v28 = some _ ∧ Fr 59 (fS [1,5,7,8,9] [vL bN want,vL g6 y5.1,vI v18,vS v27,vI v28]) a' ∧ SH M X w [eO 55 (Ty.sl tS) y5.1 g6,eI tS want bN,gE4,Ent.tab 0 (Lib.pow10Tab.map fun z => Value.int .u64 z)] w') ⟨_,[],0,hm,FrG.keep (ks:=[1,5,7,8,9]) H26 (by kernel_rfl),hS⟩ ?_
     clear hm H26 hS
     rintro kk _ _ ⟨v27,v28,hm,H,hS⟩
     cases kk with
     | zero => exact noneE hm
     | succ kk =>
      rw [iK] at hm
      refine t_in H hS (t_seq ?_)
      obtain ⟨ho29,hm⟩:=chkE hm
      refine t_r [1,5,7,8,9,37] [vL bN want,vL g6 y5.1,vI v18,vS v27,vI v28,vB (decide (v28 < (ln (gi y5.1 v18))))] [kI 0 ho29,kJ 0 0 ho29] ?_
      refine t_im hm (fun hm => ?_) (fun hm => ?c46)
      case c46 =>
       refine t_exit ?_
       obtain rfl:=someE hm
       exact t_e [1,5,7,8]
      refine t_skip (t_seq (t_block ?_))
      obtain ⟨z32,hz,hm⟩:=bindE hm
      refine t_cut [1,5,7,9,8] [vL bN want,vL g6 y5.1,vI v18,vI v28,vS z32] [eO 55 (Ty.sl tS) y5.1 g6,eI tS want bN,gE4,Ent.tab 0 (Lib.pow10Tab.map fun z => Value.int .u64 z)] ?_ ?_
      ·replace hm:=hz
       refine t_r [1,5,7,8,9,41] [vL bN want,vL g6 y5.1,vI v18,vS v27,vI v28,vB (decide (0 < v28))] [] ?_
       refine t_im hm (fun hm => ?_) (fun hm => ?c38)
       case c38 =>
        refine t_skip ?_
        obtain rfl:=someE hm
        exact t_e [1,5,7,9,8]
       obtain ⟨ho35,hm⟩:=chkE hm
       refine t_w [1,5,7,8,9] [vL bN want,vL g6 y5.1,vI v18,vS (v27 ++ [47]),vI v28] [kh ho35] ?_
       obtain rfl:=someE hm
       exact t_e [1,5,7,9,8]
      ·obtain ⟨ho39,hm⟩:=chkE hm
       obtain ⟨ho40,hm⟩:=chkE hm
       refine t_w [1,5,7,8,9] [vL bN want,vL g6 y5.1,vI v18,vS (z32 ++ (gi (gi y5.1 v18) v28)),vI v28] [kI 0 ho29,kJ 0 0 ho29,⟨none,fun _ => oka (g6.s (v18).toNat 0).a ∧ 0 ≤ v28 ∧ v28 < ln (gi y5.1 v18),fun _ hS => ((sl_inn ((hS.osl 0 rfl).el ho29)).oki ho39)⟩,⟨some (vS (gi (gi y5.1 v18) v28)),fun wz => V.at1 ⟨ab (g6.s (v18).toNat 0).a,ao (g6.s (v18).toNat 0).a + (v28).toNat * 1,none⟩ (vS (gi (gi y5.1 v18) v28)) wz,fun _ hS => ((sl_inn ((hS.osl 0 rfl).el ho29)).at1 ho39 0 rfl)⟩,kh ho40] ?_
       refine t_w [1,5,7,8,9] [vL bN want,vL g6 y5.1,vI v18,vS (z32 ++ (gi (gi y5.1 v18) v28)),vI (w64 (v28 + 1))] [] ?_
       exact fun _ _ H44 hS => ⟨_,Nat.lt_succ_self _,z32 ++ (gi (gi y5.1 v18) v28),w64 (v28 + 1),hm,FrG.keep (ks:=[1,5,7,8,9]) H44 (by kernel_rfl),hS⟩
    ·obtain ⟨ho48,hm⟩:=chkE hm
     refine t_r [1,5,7,58] [vL bN want,vL g6 y5.1,vI v18,vB (!(z24 == (gi want v18)))] [ki 1 ho48,kj 1 0 ho48] ?_
     refine t_i2 hm (fun hm => ?_)
     refine t_skip ?_
     obtain rfl:=someE hm
     exact t_e [1,5,7]
   ·refine t_w [1,5,7] [vL bN want,vL g6 y5.1,vI (w64 (v18 + 1))] [] ?_
    exact fun _ _ H54 hS => ⟨_,Nat.lt_succ_self _,w64 (v18 + 1),hm,FrG.keep (ks:=[1,5,7]) H54 (by kernel_rfl),hS⟩
 ·refine t_sel [2,3] ?_
  refine t_r [4] [vT] [] (t_ret ?_)
  obtain rfl:=someE hm
  exact t_n [] rs1

structure bR where
  lS : Int
  pd : Int
  tZ : Int
  aV : aS
instance : Inhabited bR:=⟨⟨default,default,default,default⟩⟩
def bI : Ty bR where
  z:=15
  enc:=fun x g => [vI x.lS,vI x.pd,vI x.tZ,vU x.aV.aj,.slice (g 0).a x.aV.aC.length (g 0).c,.slice (g 1).a x.aV.bl.length (g 1).c,vU x.aV.aB.aj,vS x.aV.aB.bA,vI x.aV.aB.Num,vS x.aV.aB.az.bA,.slice (g 2).a x.aV.aB.az.Value.length (g 2).c,vB x.aV.aB.az.bK,.slice (g 3).a x.aV.aB.a8.length (g 3).c,.slice (g 4).a x.aV.aQ.length (g 4).c,.slice (g 5).a x.aV.aF.length (g 5).c]
  inn:=fun M w x g => SlG au M w x.aV.aC (g 0) ∧ SlG bf M w x.aV.bl (g 1) ∧ SlG a6 M w x.aV.aB.az.Value (g 2) ∧ SlG ak M w x.aV.aB.a8 (g 3) ∧ SlG (Ty.sl tS) M w x.aV.aQ (g 4) ∧ SlG aJ M w x.aV.aF (g 5) ∧ True
  len:=fun _ _ => rfl
  one:=fun _ _ => rfl
  kp:=fun h k hX => ⟨h.1.kp k hX,h.2.1.kp k hX,h.2.2.1.kp k hX,h.2.2.2.1.kp k hX,h.2.2.2.2.1.kp k hX,h.2.2.2.2.2.1.kp k hX,trivial⟩
  anti:=fun h hM => ⟨h.1.anti hM,h.2.1.anti hM,h.2.2.1.anti hM,h.2.2.2.1.anti hM,h.2.2.2.2.1.anti hM,h.2.2.2.2.2.1.anti hM,trivial⟩
  fresh:=fun h => ⟨h.1.fresh,h.2.1.fresh,h.2.2.1.fresh,h.2.2.2.1.fresh,h.2.2.2.2.1.fresh,h.2.2.2.2.2.1.fresh,trivial⟩
def e23 (x : bR) (g : Nat → Gh) : List Value:=bI.enc x g
theorem ne {M : Av} {w : World} {x : bR} {g : Nat → Gh} (h : bI.inn M w x g) : SlG au M w x.aV.aC (g 0):=(show SlG au M w x.aV.aC (g 0) ∧ SlG bf M w x.aV.bl (g 1) ∧ SlG a6 M w x.aV.aB.az.Value (g 2) ∧ SlG ak M w x.aV.aB.a8 (g 3) ∧ SlG (Ty.sl tS) M w x.aV.aQ (g 4) ∧ SlG aJ M w x.aV.aF (g 5) ∧ True from h).1
theorem n8 {M : Av} {w : World} {x : bR} {g : Nat → Gh} (h : bI.inn M w x g) : SlG bf M w x.aV.bl (g 1):=(show SlG au M w x.aV.aC (g 0) ∧ SlG bf M w x.aV.bl (g 1) ∧ SlG a6 M w x.aV.aB.az.Value (g 2) ∧ SlG ak M w x.aV.aB.a8 (g 3) ∧ SlG (Ty.sl tS) M w x.aV.aQ (g 4) ∧ SlG aJ M w x.aV.aF (g 5) ∧ True from h).2.1
theorem nk {M : Av} {w : World} {x : bR} {g : Nat → Gh} (h : bI.inn M w x g) : SlG a6 M w x.aV.aB.az.Value (g 2):=(show SlG au M w x.aV.aC (g 0) ∧ SlG bf M w x.aV.bl (g 1) ∧ SlG a6 M w x.aV.aB.az.Value (g 2) ∧ SlG ak M w x.aV.aB.a8 (g 3) ∧ SlG (Ty.sl tS) M w x.aV.aQ (g 4) ∧ SlG aJ M w x.aV.aF (g 5) ∧ True from h).2.2.1
theorem n6 {M : Av} {w : World} {x : bR} {g : Nat → Gh} (h : bI.inn M w x g) : SlG ak M w x.aV.aB.a8 (g 3):=(show SlG au M w x.aV.aC (g 0) ∧ SlG bf M w x.aV.bl (g 1) ∧ SlG a6 M w x.aV.aB.az.Value (g 2) ∧ SlG ak M w x.aV.aB.a8 (g 3) ∧ SlG (Ty.sl tS) M w x.aV.aQ (g 4) ∧ SlG aJ M w x.aV.aF (g 5) ∧ True from h).2.2.2.1
theorem na {M : Av} {w : World} {x : bR} {g : Nat → Gh} (h : bI.inn M w x g) : SlG (Ty.sl tS) M w x.aV.aQ (g 4):=(show SlG au M w x.aV.aC (g 0) ∧ SlG bf M w x.aV.bl (g 1) ∧ SlG a6 M w x.aV.aB.az.Value (g 2) ∧ SlG ak M w x.aV.aB.a8 (g 3) ∧ SlG (Ty.sl tS) M w x.aV.aQ (g 4) ∧ SlG aJ M w x.aV.aF (g 5) ∧ True from h).2.2.2.2.1
theorem nj {M : Av} {w : World} {x : bR} {g : Nat → Gh} (h : bI.inn M w x g) : SlG aJ M w x.aV.aF (g 5):=(show SlG au M w x.aV.aC (g 0) ∧ SlG bf M w x.aV.bl (g 1) ∧ SlG a6 M w x.aV.aB.az.Value (g 2) ∧ SlG ak M w x.aV.aB.a8 (g 3) ∧ SlG (Ty.sl tS) M w x.aV.aQ (g 4) ∧ SlG aJ M w x.aV.aF (g 5) ∧ True from h).2.2.2.2.2.1
theorem oV {M : Av} {w : World} {x : bR} {g : Nat → Gh} (h0 : SlG au M w x.aV.aC (g 0)) (h1 : SlG bf M w x.aV.bl (g 1)) (h2 : SlG a6 M w x.aV.aB.az.Value (g 2)) (h3 : SlG ak M w x.aV.aB.a8 (g 3)) (h4 : SlG (Ty.sl tS) M w x.aV.aQ (g 4)) (h5 : SlG aJ M w x.aV.aF (g 5)) : bI.inn M w x g:=show SlG au M w x.aV.aC (g 0) ∧ SlG bf M w x.aV.bl (g 1) ∧ SlG a6 M w x.aV.aB.az.Value (g 2) ∧ SlG ak M w x.aV.aB.a8 (g 3) ∧ SlG (Ty.sl tS) M w x.aV.aQ (g 4) ∧ SlG aJ M w x.aV.aF (g 5) ∧ True from ⟨h0,h1,h2,h3,h4,h5,trivial⟩
def dQ (m : Nat) (s1 : List Str) (s2 : List Str) : Nat → Int → Option (Sum (Bool) (Unit))
  | 0,_ => none
  | kk + 1,v10 =>
    cond (decide (v10 < (ln s1))) (
    chk (0 ≤ v10 ∧ v10 < ln s1) <|
    chk (0 ≤ v10 ∧ v10 < ln s2) <|
    cond (!((gi s1 v10) == (gi s2 v10))) (
    some (.inl false)) (
    dQ m s1 s2 kk (w64 (v10 + 1)))) (
    some (.inr ()))
def fe (m : Nat) (s1 : List Str) (s2 : List Str) : Option (Bool) :=
  cond ((ln s1) != (ln s2)) (
  some false) (
  Option.bind (
  dQ m s1 s2 m 0) fun (z7 : Sum (Bool) (Unit)) => sumK z7 fun s_z7 =>
  some true)
theorem kZ {qm : Gh} {qc : Gh} (m : Nat) (s1 : List Str) (s2 : List Str) (r : Bool) (hm : fe m s1 s2 = some r) (w : World) (hL : S0 F0 [eI tS s1 qm,eI tS s2 qc] w ∧ fpl [eI tS s1 qm,eI tS s2 qc] = []) : RetB Tryz.prog 19 ⟨[vL qm s1,vL qc s2]⟩ (vB r) w:=by
 rw [fe] at hm
 refine f_read hL (Tryz.call19 _) Tryz.func19 Tryz.ntmps19 fun M X w => ?_
 refine t_r [0,1] [vL qm s1,vL qc s2] [] (t_seq ?_)
 refine t_r [0,1,10] [vL qm s1,vL qc s2,vB ((ln s1) != (ln s2))] [] ?_
 refine t_im hm (fun hm => ?c29) (fun hm => ?_)
 case c29 =>
  refine t_r [4] [vF] [] (t_sel [] (t_ret ?_))
  obtain rfl:=someE hm
  exact t_n [] rs1
 refine t_skip ?_
 obtain ⟨z7,hz,hm_z7⟩:=bindE hm
 intro _ _ H4 hS
 refine w_cut (fun a' w' => ∃ s_z7 : Unit,z7 = Sum.inr s_z7 ∧ Fr 26 [] a' ∧ SH M X w [eI tS s1 qm,eI tS s2 qc] w') ?_ ?_
 ·replace hm:=hz
  refine t_in H4 hS ?_
  refine t_r [0,1,12,13] [vL qm s1,vL qc s2,vI (ln s1),vI 0] [] (t_block ?_)
  intro _ _ H9 hS
  refine w_loop (fun kk a' w' => ∃ (v10 : Int),dQ m s1 s2 kk v10 = some _ ∧ Fr 26 (fS [0,1,12,13] [vL qm s1,vL qc s2,vI (ln s1),vI v10]) a' ∧ SH M X w [eI tS s1 qm,eI tS s2 qc] w') ⟨_,0,hm,FrG.keep (ks:=[0,1,12,13]) H9 (by kernel_rfl),hS⟩ ?_
  clear hm H9 hS
  rintro kk _ _ ⟨v10,hm,H,hS⟩
  cases kk with
  | zero => exact noneE hm
  | succ kk =>
   rw [dQ] at hm
   refine t_in H hS ?_
   refine t_r [0,1,12,13,14] [vL qm s1,vL qc s2,vI (ln s1),vI v10,vB (decide (v10 < (ln s1)))] [] (t_seq ?_)
   refine t_im hm (fun hm => ?_) (fun hm => ?c24)
   case c24 =>
    refine t_exit ?_
    obtain rfl:=someE hm
    exact fun _ _ H12 hS => ⟨_,rfl,FrG.keep (ks:=[]) H12 (by kernel_rfl),hS⟩
   refine t_skip (t_seq (t_block ?_))
   refine t_r [0,1,5,12,13] [vL qm s1,vL qc s2,vI v10,vI (ln s1),vI v10] [] ?_
   obtain ⟨ho15,hm⟩:=chkE hm
   obtain ⟨ho16,hm⟩:=chkE hm
   refine t_dr [0,1,12,13,24] [vL qm s1,vL qc s2,vI (ln s1),vI v10,vB (!((gi s1 v10) == (gi s2 v10)))] [ki 0 ho15,kj 0 0 ho15,ki 1 ho16,kj 1 0 ho16] ?_
   refine t_im hm (fun hm => ?_) (fun hm => ?c23)
   case c23 =>
    refine t_skip ?_
    refine t_w [0,1,12,13] [vL qm s1,vL qc s2,vI (ln s1),vI (w64 (v10 + 1))] [] ?_
    exact fun _ _ H22 hS => ⟨_,Nat.lt_succ_self _,w64 (v10 + 1),hm,FrG.keep (ks:=[0,1,12,13]) H22 (by kernel_rfl),hS⟩
   refine t_r [4] [vF] [] (t_ret ?_)
   obtain rfl:=someE hm
   have hm:=hm_z7
   obtain rfl:=someE hm
   exact t_n [] rs1
 ·rintro _ _ ⟨s_z7,hz,H,hS⟩
  subst hz
  replace hm:=sumR hm_z7
  replace hS : SH M X w [] _:=hS.sel [] rfl
  refine t_in H hS ?_
  refine t_r [4] [vT] [] (t_ret ?_)
  obtain rfl:=someE hm
  exact t_n [] rs1

def mP (m : Nat) (ci : List Str) (oK : Int) (m5 : List Str) (lj : Int) (eZ : List aK) (gG : List bD) (gW : Int) (gV : Str) (il : Int) (f8 : Str) (dz : List ae) (ej : Bool) (eM : List ay) (gF : List (List Str)) (gE : List aS) : Option (Bool) :=
  Option.bind (fe m ci m5) fun y3 =>
  some y3
theorem qQ {bU : Gh} {aW : Nat} {jQ : Gh} {f6 : Gh} {gC : Gh} {dL : Gh} {eU : Gh} {gy : Gh} {gr : Gh} (m : Nat) (ci : List Str) (oK : Int) (m5 : List Str) (lj : Int) (eZ : List aK) (gG : List bD) (gW : Int) (gV : Str) (il : Int) (f8 : Str) (dz : List ae) (ej : Bool) (eM : List ay) (gF : List (List Str)) (gE : List aS) (r : Bool) (hm : mP m ci oK m5 lj eZ gG gW gV il f8 dz ej eM gF gE = some r) (w : World) (hL : S0 F0 [eI tS ci bU,Ent.ro aW [vI oK,vL jQ m5,vU lj,vL f6 eZ,vL gC gG,vU gW,vS gV,vI il,vS f8,vL dL dz,vB ej,vL eU eM,vL gy gF,vL gr gE],eI tS m5 jQ,eI au eZ f6,eI bf gG gC,eI a6 dz dL,eI ak eM eU,eI (Ty.sl tS) gF gy,eI aJ gE gr] w ∧ fpl [eI tS ci bU,Ent.ro aW [vI oK,vL jQ m5,vU lj,vL f6 eZ,vL gC gG,vU gW,vS gV,vI il,vS f8,vL dL dz,vB ej,vL eU eM,vL gy gF,vL gr gE],eI tS m5 jQ,eI au eZ f6,eI bf gG gC,eI a6 dz dL,eI ak eM eU,eI (Ty.sl tS) gF gy,eI aJ gE gr] = []) : RetB Tryz.prog 18 ⟨[vL bU ci,vP aW]⟩ (vB r) w:=by
 rw [mP] at hm
 refine f_read hL (Tryz.call18 _) Tryz.func18 Tryz.ntmps18 fun M X w => ?_
 refine t_r [0,1] [vL bU ci,vP aW] [] ?_
 obtain ⟨y3,hy3,hm⟩:=bindE hm
 refine t_r [3] [vB y3] [ko 1 1,kr fun _ hS => kZ (qm:=bU) (qc:=jQ) m _ _ _ hy3 _ (s0im (s0im s0nil (hS.im 2 rfl)) (hS.im 0 rfl))] (t_sel [] (t_ret ?_))
 obtain rfl:=someE hm
 exact t_n [] rs1

def d1 (m : Nat) (s : List (List Str)) (eS : Int) (dZ : List Str) (dE : Int) (bw : List aK) (cd : List bD) (cf : Int) (cg : Str) (cq : Int) (bG : Str) (aT : List ae) (aZ : Bool) (bm : List ay) (bZ : List (List Str)) (cc : List aS) : Nat → Int → Option (Sum (Int) (Unit))
  | 0,_ => none
  | kk + 1,v6 =>
    cond (decide (v6 < (ln s))) (
    chk (0 ≤ v6 ∧ v6 < ln s) <|
    Option.bind (mP m (gi s v6) eS dZ dE bw cd cf cg cq bG aT aZ bm bZ cc) fun y12 =>
    cond y12 (
    some (.inl v6)) (
    d1 m s eS dZ dE bw cd cf cg cq bG aT aZ bm bZ cc kk (w64 (v6 + 1)))) (
    some (.inr ()))
def ex (m : Nat) (s : List (List Str)) (eS : Int) (dZ : List Str) (dE : Int) (bw : List aK) (cd : List bD) (cf : Int) (cg : Str) (cq : Int) (bG : Str) (aT : List ae) (aZ : Bool) (bm : List ay) (bZ : List (List Str)) (cc : List aS) : Option (Int) :=
  Option.bind (
  d1 m s eS dZ dE bw cd cf cg cq bG aT aZ bm bZ cc m 0) fun (z3 : Sum (Int) (Unit)) => sumK z3 fun s_z3 =>
  some (-1)
theorem iI {g_s : Gh} {bY : Nat} {eQ : Gh} {bW : Gh} {d6 : Gh} {br : Gh} {bS : Gh} {d5 : Gh} {d8 : Gh} (m : Nat) (s : List (List Str)) (eS : Int) (dZ : List Str) (dE : Int) (bw : List aK) (cd : List bD) (cf : Int) (cg : Str) (cq : Int) (bG : Str) (aT : List ae) (aZ : Bool) (bm : List ay) (bZ : List (List Str)) (cc : List aS) (r : Int) (hm : ex m s eS dZ dE bw cd cf cg cq bG aT aZ bm bZ cc = some r) (w : World) (hL : S0 F0 [eI (Ty.sl tS) s g_s,Ent.ro bY [vI eS,vL eQ dZ,vU dE,vL bW bw,vL d6 cd,vU cf,vS cg,vI cq,vS bG,vL br aT,vB aZ,vL bS bm,vL d5 bZ,vL d8 cc],eI tS dZ eQ,eI au bw bW,eI bf cd d6,eI a6 aT br,eI ak bm bS,eI (Ty.sl tS) bZ d5,eI aJ cc d8] w ∧ fpl [eI (Ty.sl tS) s g_s,Ent.ro bY [vI eS,vL eQ dZ,vU dE,vL bW bw,vL d6 cd,vU cf,vS cg,vI cq,vS bG,vL br aT,vB aZ,vL bS bm,vL d5 bZ,vL d8 cc],eI tS dZ eQ,eI au bw bW,eI bf cd d6,eI a6 aT br,eI ak bm bS,eI (Ty.sl tS) bZ d5,eI aJ cc d8] = []) : RetB Tryz.prog 17 ⟨[vL g_s s,.func (.func 18) ⟨[]⟩ ⟨[vP bY]⟩]⟩ (vI r) w:=by
 rw [ex] at hm
 refine f_read hL (Tryz.call17 _) Tryz.func17 Tryz.ntmps17 fun M X w => ?_
 refine t_r [0,1] [vL g_s s,.func (.func 18) ⟨[]⟩ ⟨[vP bY]⟩] [] ?_
 obtain ⟨z3,hz,hm_z3⟩:=bindE hm
 intro _ _ H2 hS
 refine w_cut (fun a' w' => ∃ s_z3 : Unit,z3 = Sum.inr s_z3 ∧ Fr 19 [] a' ∧ SH M X w [eI (Ty.sl tS) s g_s,Ent.ro bY [vI eS,vL eQ dZ,vU dE,vL bW bw,vL d6 cd,vU cf,vS cg,vI cq,vS bG,vL br aT,vB aZ,vL bS bm,vL d5 bZ,vL d8 cc],eI tS dZ eQ,eI au bw bW,eI bf cd d6,eI a6 aT br,eI ak bm bS,eI (Ty.sl tS) bZ d5,eI aJ cc d8] w') ?_ ?_
 ·replace hm:=hz
  refine t_in H2 hS ?_
  refine t_r [0,1,7,8] [vL g_s s,.func (.func 18) ⟨[]⟩ ⟨[vP bY]⟩,vI (ln s),vI 0] [] (t_block ?_)
  intro _ _ H5 hS
  refine w_loop (fun kk a' w' => ∃ (v6 : Int),d1 m s eS dZ dE bw cd cf cg cq bG aT aZ bm bZ cc kk v6 = some _ ∧ Fr 19 (fS [0,1,7,8] [vL g_s s,.func (.func 18) ⟨[]⟩ ⟨[vP bY]⟩,vI (ln s),vI v6]) a' ∧ SH M X w [eI (Ty.sl tS) s g_s,Ent.ro bY [vI eS,vL eQ dZ,vU dE,vL bW bw,vL d6 cd,vU cf,vS cg,vI cq,vS bG,vL br aT,vB aZ,vL bS bm,vL d5 bZ,vL d8 cc],eI tS dZ eQ,eI au bw bW,eI bf cd d6,eI a6 aT br,eI ak bm bS,eI (Ty.sl tS) bZ d5,eI aJ cc d8] w') ⟨_,0,hm,FrG.keep (ks:=[0,1,7,8]) H5 (by kernel_rfl),hS⟩ ?_
  clear hm H5 hS
  rintro kk _ _ ⟨v6,hm,H,hS⟩
  cases kk with
  | zero => exact noneE hm
  | succ kk =>
   rw [d1] at hm
   refine t_in H hS ?_
   refine t_r [0,1,7,8,9] [vL g_s s,.func (.func 18) ⟨[]⟩ ⟨[vP bY]⟩,vI (ln s),vI v6,vB (decide (v6 < (ln s)))] [] (t_seq ?_)
   refine t_im hm (fun hm => ?_) (fun hm => ?c20)
   case c20 =>
    refine t_exit ?_
    obtain rfl:=someE hm
    exact fun _ _ H8 hS => ⟨_,rfl,FrG.keep (ks:=[]) H8 (by kernel_rfl),hS⟩
   refine t_skip (t_seq (t_block ?_))
   refine t_r [0,1,5,7,8] [vL g_s s,.func (.func 18) ⟨[]⟩ ⟨[vP bY]⟩,vI v6,vI (ln s),vI v6] [] ?_
   obtain ⟨ho11,hm⟩:=chkE hm
   obtain ⟨y12,hy12,hm⟩:=bindE hm
   refine t_r [0,1,5,7,8,16] [vL g_s s,.func (.func 18) ⟨[]⟩ ⟨[vP bY]⟩,vI v6,vI (ln s),vI v6,vB y12] [ki 0 ho11,kj 0 0 ho11,kr fun _ hS => qQ (bU:=(g_s.s (v6).toNat 0)) (aW:=bY) (jQ:=eQ) (f6:=bW) (gC:=d6) (dL:=br) (eU:=bS) (gy:=d5) (gr:=d8) m _ _ _ _ _ _ _ _ _ _ _ _ _ _ _ _ hy12 _ (s0im (s0ro (s0im (s0im (s0im (s0im (s0im (s0im (s0im s0nil (hS.im 8 rfl)) (hS.im 7 rfl)) (hS.im 6 rfl)) (hS.im 5 rfl)) (hS.im 4 rfl)) (hS.im 3 rfl)) (hS.im 2 rfl)) (hS.ro 1 rfl)) (sl_inn ((hS.im 0 rfl).el ho11)))] ?_
   refine t_im hm (fun hm => ?_) (fun hm => ?c19)
   case c19 =>
    refine t_skip ?_
    refine t_w [0,1,7,8] [vL g_s s,.func (.func 18) ⟨[]⟩ ⟨[vP bY]⟩,vI (ln s),vI (w64 (v6 + 1))] [] ?_
    exact fun _ _ H18 hS => ⟨_,Nat.lt_succ_self _,w64 (v6 + 1),hm,FrG.keep (ks:=[0,1,7,8]) H18 (by kernel_rfl),hS⟩
   refine t_r [4] [vI v6] [] (t_ret ?_)
   obtain rfl:=someE hm
   have hm:=hm_z3
   obtain rfl:=someE hm
   exact t_n [] rs1
 ·rintro _ _ ⟨s_z3,hz,H,hS⟩
  subst hz
  replace hm:=sumR hm_z3
  replace hS : SH M X w [] _:=hS.sel [] rfl
  refine t_in H hS ?_
  refine t_r [4] [vI (-1)] [] (t_ret ?_)
  obtain rfl:=someE hm
  exact t_n [] rs1

def kz (a_ : bR) (b_ : bR) : Int :=
  w64 (a_.lS - b_.lS)
theorem re {sy : Gh} {sb : Gh} {sA : Gh} {si : Gh} {s9 : Gh} {sR : Gh} {r7 : Gh} {qN : Gh} {r9 : Gh} {qM : Gh} {qR : Gh} {ra : Gh} (a_ : bR) (b_ : bR) (w : World) (hL : S0 F0 [eI au a_.aV.aC sy,eI bf a_.aV.bl sb,eI a6 a_.aV.aB.az.Value sA,eI ak a_.aV.aB.a8 si,eI (Ty.sl tS) a_.aV.aQ s9,eI aJ a_.aV.aF sR,eI au b_.aV.aC r7,eI bf b_.aV.bl qN,eI a6 b_.aV.aB.az.Value r9,eI ak b_.aV.aB.a8 qM,eI (Ty.sl tS) b_.aV.aQ qR,eI aJ b_.aV.aF ra] w ∧ fpl [eI au a_.aV.aC sy,eI bf a_.aV.bl sb,eI a6 a_.aV.aB.az.Value sA,eI ak a_.aV.aB.a8 si,eI (Ty.sl tS) a_.aV.aQ s9,eI aJ a_.aV.aF sR,eI au b_.aV.aC r7,eI bf b_.aV.bl qN,eI a6 b_.aV.aB.az.Value r9,eI ak b_.aV.aB.a8 qM,eI (Ty.sl tS) b_.aV.aQ qR,eI aJ b_.aV.aF ra] = []) : RetB Tryz.prog 21 ⟨[.agg ⟨e23 a_ (gL [sy,sb,sA,si,s9,sR])⟩,.agg ⟨e23 b_ (gL [r7,qN,r9,qM,qR,ra])⟩]⟩ (vI (kz a_ b_)) w:=by
 generalize hm : kz a_ b_ = r
 rw [kz] at hm
 refine f_read hL (Tryz.call21 _) Tryz.func21 Tryz.ntmps21 fun M X w => (t_starts ?_)
 refine t_m [] [0,1,2,3,4,5,6,7,8,9,10,11] [1] [.agg ⟨e23 b_ (gL [r7,qN,r9,qM,qR,ra])⟩] (fun _ _ H hd => o_box (e23 a_ (gL [sy,sb,sA,si,s9,sR])) H hd rfl rfl) fun b1 => ?_
 refine t_m [] [0,1,2,3,4,5,6,7,8,9,10,11,12] [2] [vP b1] (fun _ _ H3 hd => o_box (e23 b_ (gL [r7,qN,r9,qM,qR,ra])) H3 hd rfl rfl) fun b4 => ?_
 refine t_b 3 [2,3] [vP b1,vP b4] [] (t_end ?_)
 refine t_r [4] [vI (w64 (a_.lS - b_.lS))] [kb 1 0,kb 0 0] (t_sel [] (t_ret ?_))
 subst hm
 exact t_n [] rs1

def cy (m : Nat) (a_ : Int) : Nat → (List bR) → Int → Option (List bR)
  | 0,_,_ => none
  | kk + 1,v12,v15 =>
    chk ((decide (a_ < v15)) = true → 0 ≤ v15 ∧ v15 < ln v12) <|
    chk ((decide (a_ < v15)) = true → 0 ≤ (w64 (v15 - 1)) ∧ (w64 (v15 - 1)) < ln v12) <|
    lt (kz (gi v12 v15) (gi v12 (w64 (v15 - 1)))) fun y18 =>
    lt (cond (decide (a_ < v15)) (decide (y18 < 0)) false) fun x19 =>
    cond x19 (
    chk (0 ≤ (w64 (v15 - 1)) ∧ (w64 (v15 - 1)) < ln v12) <|
    lt ((gi v12 (w64 (v15 - 1))).aV.aB.az.bA) fun x24 =>
    lt ((gi v12 (w64 (v15 - 1))).aV.aB.az.bK) fun x25 =>
    chk (0 ≤ v15 ∧ v15 < ln v12) <|
    lt (setl v12 v15 (bR.mk ((gi v12 (w64 (v15 - 1))).lS) ((gi v12 (w64 (v15 - 1))).pd) ((gi v12 (w64 (v15 - 1))).tZ) (aS.mk ((gi v12 (w64 (v15 - 1))).aV.aj) ((gi v12 (w64 (v15 - 1))).aV.aC) ((gi v12 (w64 (v15 - 1))).aV.bl) (ay.mk ((gi v12 (w64 (v15 - 1))).aV.aB.aj) ((gi v12 (w64 (v15 - 1))).aV.aB.bA) ((gi v12 (w64 (v15 - 1))).aV.aB.Num) (bD.mk x24 ((gi v12 (w64 (v15 - 1))).aV.aB.az.Value) x25) ((gi v12 (w64 (v15 - 1))).aV.aB.a8)) ((gi v12 (w64 (v15 - 1))).aV.aQ) ((gi v12 (w64 (v15 - 1))).aV.aF)))) fun q40 =>
    chk (0 ≤ (w64 (v15 - 1)) ∧ (w64 (v15 - 1)) < ln q40) <|
    lt (setl q40 (w64 (v15 - 1)) (gi v12 v15)) fun q43 =>
    cy m a_ kk q43 (w64 (v15 - 1))) (
    some v12)
def cz (m : Nat) (a_ : Int) (b_ : Int) : Nat → (List bR) → Int → Option (List bR)
  | 0,_,_ => none
  | kk + 1,v3,v6 =>
    cond (decide (v6 < b_)) (
    Option.bind (
    cy m a_ m v3 v6) fun (z9 : List bR) =>
    cz m a_ b_ kk z9 (w64 (v6 + 1))) (
    some v3)
def cX (m : Nat) (data : List bR) (a_ : Int) (b_ : Int) : Option (List bR) :=
  cz m a_ b_ m data (w64 (a_ + 1))
theorem hV {aI : Gh} (M : Av) (m : Nat) (data : List bR) (a_ : Int) (b_ : Int) (r : List bR) (hm : cX m data a_ b_ = some r) (w : World) (hS : S0 M [eO 58 bI data aI] w) : Calls Tryz.prog 50 ⟨[.slice aI.a data.length aI.c,vI a_,vI b_,.func (.func 21) ⟨[]⟩ ⟨[]⟩]⟩ w (fun e w' => ∃ v,e = .returned v ∧ ∃ (aA : Gh),v = vW [] ∧ (aA.a = aI.a ∧ aA.c = aI.c ∧ r.length = data.length) ∧ SH M (fpl [eO 58 bI data aI]) w [eO 58 bI r aA] w'):=by
 rw [cX] at hm
 have hS0 : SH M (fpl [eO 58 bI data aI]) w [eO 58 bI data aI] w:=hS
 generalize hX : fpl [eO 58 bI data aI] = X at hS0 ⊢
 clear hS hX
 have hS:=hS0
 clear hS0
 refine calls_entryP Tryz.func50 rfl Tryz.ntmps50 rfl fun _ H => ?_
 have hf_e_data : aI.a = aI.a ∧ aI.c = aI.c ∧ data.length = data.length:=⟨rfl,rfl,rfl⟩
 refine t_in H hS ?_
 refine t_r [0,1,2,3,8] [.slice aI.a data.length aI.c,vI a_,vI b_,.func (.func 21) ⟨[]⟩ ⟨[]⟩,vI (w64 (a_ + 1))] [] (t_block ?_)
 intro _ _ H2 hS
 refine w_loop (fun kk a' w' => ∃ (v3 : List bR) (v6 : Int) (g4 : Gh),cz m a_ b_ kk v3 v6 = some _ ∧ Fr 53 (fS [1,2,3,0,8] [vI a_,vI b_,.func (.func 21) ⟨[]⟩ ⟨[]⟩,.slice g4.a v3.length g4.c,vI v6]) a' ∧ SH M X w [eO 58 bI v3 g4] w' ∧ (g4.a = aI.a ∧ g4.c = aI.c ∧ v3.length = data.length)) ⟨_,data,w64 (a_ + 1),aI,hm,FrG.keep (ks:=[1,2,3,0,8]) H2 (by kernel_rfl),hS,hf_e_data⟩ ?_
 clear hm H2 hS
 rintro kk _ _ ⟨v3,v6,g4,hm,H,hS,hf5⟩
 cases kk with
 | zero => exact noneE hm
 | succ kk =>
  rw [cz] at hm
  refine t_in H hS (t_seq ?_)
  refine t_r [0,1,2,3,8,14] [.slice g4.a v3.length g4.c,vI a_,vI b_,.func (.func 21) ⟨[]⟩ ⟨[]⟩,vI v6,vB (decide (v6 < b_))] [] ?_
  refine t_im hm (fun hm => ?_) (fun hm => ?c59)
  case c59 =>
   refine t_exit ?_
   obtain rfl:=someE hm
   intro _ _ H8 hS
   try dsimp only
   exact retR0 H8 rfl ⟨_,rfl,g4,rfl,hf5,(hS.sel [0] rfl)⟩
  refine t_skip ?_
  obtain ⟨z9,hz,hm⟩:=bindE hm
  intro _ _ H8 hS
  refine w_cut (fun a' w' => ∃ (g54 : Gh),Fr 53 (fS [1,2,3,8,0] [vI a_,vI b_,.func (.func 21) ⟨[]⟩ ⟨[]⟩,vI v6,.slice g54.a z9.length g54.c]) a' ∧ SH M X w [eO 58 bI z9 g54] w' ∧ (g54.a = aI.a ∧ g54.c = aI.c ∧ z9.length = data.length)) ?_ ?_
  ·replace hm:=hz
   refine t_in H8 hS (t_block ?_)
   refine t_r [0,1,2,3,8,9] [.slice g4.a v3.length g4.c,vI a_,vI b_,.func (.func 21) ⟨[]⟩ ⟨[]⟩,vI v6,vI v6] [] (t_block ?_)
   intro _ _ H11 hS
   refine w_loop (fun kk a' w' => ∃ (v12 : List bR) (v15 : Int) (g13 : Gh),cy m a_ kk v12 v15 = some _ ∧ Fr 53 (fS [1,2,3,8,0,9] [vI a_,vI b_,.func (.func 21) ⟨[]⟩ ⟨[]⟩,vI v6,.slice g13.a v12.length g13.c,vI v15]) a' ∧ SH M X w [eO 58 bI v12 g13] w' ∧ (g13.a = aI.a ∧ g13.c = aI.c ∧ v12.length = data.length)) ⟨_,v3,v6,g4,hm,FrG.keep (ks:=[1,2,3,8,0,9]) H11 (by kernel_rfl),hS,hf5⟩ ?_
   clear hm H11 hS
   rintro kk _ _ ⟨v12,v15,g13,hm,H,hS,hf14⟩
   cases kk with
   | zero => exact noneE hm
   | succ kk =>
    rw [cy] at hm
    refine t_in H hS (t_seq ?_)
    obtain ⟨ho16,hm⟩:=chkE hm
    obtain ⟨ho17,hm⟩:=chkE hm
    obtain ⟨y18,hy18,hm⟩:=letE hm
    obtain ⟨x19,hx19,hm⟩:=letE hm
    refine t_dr [0,1,2,3,8,9,34] [.slice g13.a v12.length g13.c,vI a_,vI b_,.func (.func 21) ⟨[]⟩ ⟨[]⟩,vI v6,vI v15,vB x19] [kgI ((decide (a_ < v15)) = true ∧ True) 0 fun hg => (ho16 hg.1),⟨some (.agg ⟨e23 (gi v12 v15) (g13.s (v15).toNat)⟩),fun wz => ((decide (a_ < v15)) = true ∧ True → V.atN (ab g13.a) (ao g13.a + (v15).toNat * 15) (e23 (gi v12 v15) (g13.s (v15).toNat)) 0 wz),fun _ hS => fun hg => (hS.osl 0 rfl).atA (ho16 hg.1) 0 rfl⟩,kgI ((decide (a_ < v15)) = true ∧ True) 0 fun hg => (ho17 hg.1),⟨some (.agg ⟨e23 (gi v12 (w64 (v15 - 1))) (g13.s ((w64 (v15 - 1))).toNat)⟩),fun wz => ((decide (a_ < v15)) = true ∧ True → V.atN (ab g13.a) (ao g13.a + ((w64 (v15 - 1))).toNat * 15) (e23 (gi v12 (w64 (v15 - 1))) (g13.s ((w64 (v15 - 1))).toNat)) 0 wz),fun _ hS => fun hg => (hS.osl 0 rfl).atA (ho17 hg.1) 0 rfl⟩,⟨some (vI y18),fun wz => ((decide (a_ < v15)) = true ∧ True → RetB Tryz.prog 21 ⟨[.agg ⟨e23 (gi v12 v15) (g13.s (v15).toNat)⟩,.agg ⟨e23 (gi v12 (w64 (v15 - 1))) (g13.s ((w64 (v15 - 1))).toNat)⟩]⟩ (vI y18) wz),fun _ hS => fun hg => (by rw [hy18]; exact re (sy:=(g13.s (v15).toNat 0)) (sb:=(g13.s (v15).toNat 1)) (sA:=(g13.s (v15).toNat 2)) (si:=(g13.s (v15).toNat 3)) (s9:=(g13.s (v15).toNat 4)) (sR:=(g13.s (v15).toNat 5)) (r7:=(g13.s ((w64 (v15 - 1))).toNat 0)) (qN:=(g13.s ((w64 (v15 - 1))).toNat 1)) (r9:=(g13.s ((w64 (v15 - 1))).toNat 2)) (qM:=(g13.s ((w64 (v15 - 1))).toNat 3)) (qR:=(g13.s ((w64 (v15 - 1))).toNat 4)) (ra:=(g13.s ((w64 (v15 - 1))).toNat 5)) (gi v12 v15) (gi v12 (w64 (v15 - 1))) _ (s0im (s0im (s0im (s0im (s0im (s0im (s0im (s0im (s0im (s0im (s0im (s0im s0nil (nj ((hS.osl 0 rfl).el (ho17 hg.1)))) (na ((hS.osl 0 rfl).el (ho17 hg.1)))) (n6 ((hS.osl 0 rfl).el (ho17 hg.1)))) (nk ((hS.osl 0 rfl).el (ho17 hg.1)))) (n8 ((hS.osl 0 rfl).el (ho17 hg.1)))) (ne ((hS.osl 0 rfl).el (ho17 hg.1)))) (nj ((hS.osl 0 rfl).el (ho16 hg.1)))) (na ((hS.osl 0 rfl).el (ho16 hg.1)))) (n6 ((hS.osl 0 rfl).el (ho16 hg.1)))) (nk ((hS.osl 0 rfl).el (ho16 hg.1)))) (n8 ((hS.osl 0 rfl).el (ho16 hg.1)))) (ne ((hS.osl 0 rfl).el (ho16 hg.1)))))⟩] ?_ (he:=by subst hy18 hx19; kernel_rfl)
    refine t_im hm (fun hm => ?_) (fun hm => ?c52)
    case c52 =>
     refine t_exit ?_
     obtain rfl:=someE hm
     exact fun _ _ H21 hS => ⟨g13,FrG.keep (ks:=[1,2,3,8,0]) H21 (by kernel_rfl),hS,hf14⟩
    refine t_skip (t_seq (t_block ?_))
    obtain ⟨ho23,hm⟩:=chkE hm
    obtain ⟨x24,hx24,hm⟩:=letE hm
    obtain ⟨x25,hx25,hm⟩:=letE hm
    obtain ⟨ho32,hm⟩:=chkE hm
    obtain ⟨q40,hq40,hm⟩:=letE hm
    obtain ⟨ho41,hm⟩:=chkE hm
    obtain ⟨q43,hq43,hm⟩:=letE hm
    intro _ _ H21 hS
    refine w_dS (base:=(fS [0,1,2,3,8,9] [.slice g13.a v12.length g13.c,vI a_,vI b_,.func (.func 21) ⟨[]⟩ ⟨[]⟩,vI v6,vI v15])) (L:=[eO 58 bI v12 g13]) 18 1 (fun yg22 => [.slice g13.a v12.length g13.c,vI v15,.slice g13.a v12.length g13.c,vI v15,vI (w64 (v15 - 1)),.slice g13.a v12.length g13.c,vI v15,vI (w64 (v15 - 1)),.pointer (some ⟨ab g13.a,ao g13.a + ((w64 (v15 - 1))).toNat * 15,none⟩),vG [vI ((gi v12 (w64 (v15 - 1))).lS),vI ((gi v12 (w64 (v15 - 1))).pd),vI ((gi v12 (w64 (v15 - 1))).tZ),vU ((gi v12 (w64 (v15 - 1))).aV.aj),.slice (g13.s ((w64 (v15 - 1))).toNat 0).a (((gi v12 (w64 (v15 - 1))).aV.aC).length) (g13.s ((w64 (v15 - 1))).toNat 0).c,.slice (g13.s ((w64 (v15 - 1))).toNat 1).a (((gi v12 (w64 (v15 - 1))).aV.bl).length) (g13.s ((w64 (v15 - 1))).toNat 1).c,vU ((gi v12 (w64 (v15 - 1))).aV.aB.aj),vS (gi v12 (w64 (v15 - 1))).aV.aB.bA,vI ((gi v12 (w64 (v15 - 1))).aV.aB.Num),vS x24,.slice (g13.s ((w64 (v15 - 1))).toNat 2).a (((gi v12 (w64 (v15 - 1))).aV.aB.az.Value).length) (g13.s ((w64 (v15 - 1))).toNat 2).c,vB x25,.slice (g13.s ((w64 (v15 - 1))).toNat 3).a (((gi v12 (w64 (v15 - 1))).aV.aB.a8).length) (g13.s ((w64 (v15 - 1))).toNat 3).c,.slice (g13.s ((w64 (v15 - 1))).toNat 4).a (((gi v12 (w64 (v15 - 1))).aV.aQ).length) (g13.s ((w64 (v15 - 1))).toNat 4).c,.slice (g13.s ((w64 (v15 - 1))).toNat 5).a (((gi v12 (w64 (v15 - 1))).aV.aF).length) (g13.s ((w64 (v15 - 1))).toNat 5).c],.slice g13.a v12.length g13.c,vI v15,.pointer (some ⟨ab g13.a,ao g13.a + (v15).toNat * 15,none⟩),.agg ⟨e23 (gi v12 v15) (g13.s (v15).toNat)⟩,.pointer (some ⟨ab g13.a,ao g13.a + (v15).toNat * 15,none⟩),undef,.pointer (some ⟨ab (Gh.mk g13.a g13.c (yg22 15 0).s).a,ao (Gh.mk g13.a g13.c (yg22 15 0).s).a + ((w64 (v15 - 1))).toNat * 15,none⟩),undef]) (fun yg22 => [[],[],[],[],[],[],[],[],[],[eI aJ ((gi v12 (w64 (v15 - 1))).aV.aF) (g13.s ((w64 (v15 - 1))).toNat 5),eI (Ty.sl tS) ((gi v12 (w64 (v15 - 1))).aV.aQ) (g13.s ((w64 (v15 - 1))).toNat 4),eI ak ((gi v12 (w64 (v15 - 1))).aV.aB.a8) (g13.s ((w64 (v15 - 1))).toNat 3),eI a6 ((gi v12 (w64 (v15 - 1))).aV.aB.az.Value) (g13.s ((w64 (v15 - 1))).toNat 2),eI bf ((gi v12 (w64 (v15 - 1))).aV.bl) (g13.s ((w64 (v15 - 1))).toNat 1),eI au ((gi v12 (w64 (v15 - 1))).aV.aC) (g13.s ((w64 (v15 - 1))).toNat 0)],[],[],[],[eI aJ ((gi v12 v15).aV.aF) (g13.s (v15).toNat 5),eI (Ty.sl tS) ((gi v12 v15).aV.aQ) (g13.s (v15).toNat 4),eI ak ((gi v12 v15).aV.aB.a8) (g13.s (v15).toNat 3),eI a6 ((gi v12 v15).aV.aB.az.Value) (g13.s (v15).toNat 2),eI bf ((gi v12 v15).aV.bl) (g13.s (v15).toNat 1),eI au ((gi v12 v15).aV.aC) (g13.s (v15).toNat 0)],[],[eO 58 bI q40 (Gh.mk g13.a g13.c (yg22 15 0).s)],[],[eO 58 bI q43 (Gh.mk (Gh.mk g13.a g13.c (yg22 15 0).s).a (Gh.mk g13.a g13.c (yg22 15 0).s).c (yg22 17 0).s)]]) [[],[],[],[],[],[],[],[],[18],[18],[],[],[18],[18],[18],[9,18],[15],[13,15]] [[],[],[],[],[],[],[],[],[],[],[],[],[],[],[],[18],[],[15]] [[0],[1],[2],[3],[3,4],[5],[6],[6,7],[5,6,7,8],[5,6,7,8,9],[10],[11],[10,11,12],[10,11,12,13],[0,1,14],[0,1,5,6,7,8,9,14,15],[0,1,2,3,4,5,6,7,8,9,14,15,16],[0,1,2,3,4,5,6,7,8,9,10,11,12,13,14,15,16,17]] [] (FrG.keep (ks:=[0,1,2,3,8,9]) H21 (by kernel_rfl)) (fun _ _ h => by cases h) (by kernel_rfl) hS (by kernel_rfl) rfl rfl (by kernel_rfl) (by kernel_rfl) (by kernel_rfl) (gd_none (by kernel_rfl) _ _) ?hstep_yg22 fun _ _ yg22 H45 hv hS => ?hK_yg22
    case hstep_yg22 =>
     refine ⟨se0,se0,se0,se0,se0,se0,se0,se0,(se (fun _ _ => [⟨none,fun _ => oka g13.a ∧ 0 ≤ (w64 (v15 - 1)) ∧ (w64 (v15 - 1)) < ln v12,fun _ hS => ((hS.osl 0 rfl).oki ho23)⟩])),?_,se0,se0,(se (fun _ _ => [⟨none,fun _ => oka g13.a ∧ 0 ≤ v15 ∧ v15 < ln v12,fun _ hS => ((hS.osl 0 rfl).oki ho32)⟩])),?_,(se (fun _ _ => [⟨none,fun _ => oka g13.a ∧ 0 ≤ v15 ∧ v15 < ln v12,fun _ hS => ((hS.osl 0 rfl).oki ho32)⟩])),?_,?_,?_,trivial⟩
     ·intro o ho a w yg22 M Hb hv hO hS0
      obtain rfl:=someE ho
      have H:=(Hb).add (hv 8 (by decide) (by decide) 45 rfl)
      have hS:=hS0
      refine Stp.mono (o_evs [(.agg ⟨e23 (gi v12 (w64 (v15 - 1))) (g13.s ((w64 (v15 - 1))).toNat)⟩)] (vG [vI ((gi v12 (w64 (v15 - 1))).lS),vI ((gi v12 (w64 (v15 - 1))).pd),vI ((gi v12 (w64 (v15 - 1))).tZ),vU ((gi v12 (w64 (v15 - 1))).aV.aj),.slice (g13.s ((w64 (v15 - 1))).toNat 0).a (((gi v12 (w64 (v15 - 1))).aV.aC).length) (g13.s ((w64 (v15 - 1))).toNat 0).c,.slice (g13.s ((w64 (v15 - 1))).toNat 1).a (((gi v12 (w64 (v15 - 1))).aV.bl).length) (g13.s ((w64 (v15 - 1))).toNat 1).c,vU ((gi v12 (w64 (v15 - 1))).aV.aB.aj),vS (gi v12 (w64 (v15 - 1))).aV.aB.bA,vI ((gi v12 (w64 (v15 - 1))).aV.aB.Num),vS x24,.slice (g13.s ((w64 (v15 - 1))).toNat 2).a (((gi v12 (w64 (v15 - 1))).aV.aB.az.Value).length) (g13.s ((w64 (v15 - 1))).toNat 2).c,vB x25,.slice (g13.s ((w64 (v15 - 1))).toNat 3).a (((gi v12 (w64 (v15 - 1))).aV.aB.a8).length) (g13.s ((w64 (v15 - 1))).toNat 3).c,.slice (g13.s ((w64 (v15 - 1))).toNat 4).a (((gi v12 (w64 (v15 - 1))).aV.aQ).length) (g13.s ((w64 (v15 - 1))).toNat 4).c,.slice (g13.s ((w64 (v15 - 1))).toNat 5).a (((gi v12 (w64 (v15 - 1))).aV.aF).length) (g13.s ((w64 (v15 - 1))).toNat 5).c]) (some (fun wz => V.atN (ab g13.a) (ao g13.a + ((w64 (v15 - 1))).toNat * 15) (e23 (gi v12 (w64 (v15 - 1))) (g13.s ((w64 (v15 - 1))).toNat)) 0 wz)) [] H rfl (by subst hx24 hx25; kernel_rfl) (fun q e => by cases e; exact ((hS.osl 0 rfl).atA ho23 0 rfl))) ?_
      rintro v w2 ⟨rfl,hq⟩
      replace hS:=hS.below hq.below
      replace hS:=hS.addIm (ne ((hS.ow 0 rfl).el ho23))
      replace hS:=hS.addIm (n8 ((hS.ow 1 rfl).el ho23))
      replace hS:=hS.addIm (nk ((hS.ow 2 rfl).el ho23))
      replace hS:=hS.addIm (n6 ((hS.ow 3 rfl).el ho23))
      replace hS:=hS.addIm (na ((hS.ow 4 rfl).el ho23))
      replace hS:=hS.addIm (nj ((hS.ow 5 rfl).el ho23))
      exact ⟨gL [],fun _ _ => rfl,hS.sel [0,1,2,3,4,5,6] rfl⟩
     ·intro o ho a w yg22 M Hb hv hO hS0
      obtain rfl:=someE ho
      have H:=(Hb).add (hv 12 (by decide) (by decide) 49 rfl)
      have hS:=hS0
      refine Stp.mono (o_evs [(.agg ⟨e23 (gi v12 v15) (g13.s (v15).toNat)⟩)] (.agg ⟨e23 (gi v12 v15) (g13.s (v15).toNat)⟩) (some (fun wz => V.atN (ab g13.a) (ao g13.a + (v15).toNat * 15) (e23 (gi v12 v15) (g13.s (v15).toNat)) 0 wz)) [] H rfl (by kernel_rfl) (fun q e => by cases e; exact ((hS.osl 0 rfl).atA ho32 0 rfl))) ?_
      rintro v w2 ⟨rfl,hq⟩
      replace hS:=hS.below hq.below
      replace hS:=hS.addIm (ne ((hS.ow 0 rfl).el ho32))
      replace hS:=hS.addIm (n8 ((hS.ow 1 rfl).el ho32))
      replace hS:=hS.addIm (nk ((hS.ow 2 rfl).el ho32))
      replace hS:=hS.addIm (n6 ((hS.ow 3 rfl).el ho32))
      replace hS:=hS.addIm (na ((hS.ow 4 rfl).el ho32))
      replace hS:=hS.addIm (nj ((hS.ow 5 rfl).el ho32))
      exact ⟨gL [],fun _ _ => rfl,hS.sel [0,1,2,3,4,5,6] rfl⟩
     ·intro o ho a w yg22 M Hb hv hO hS0
      obtain rfl:=someE ho
      have H:=((Hb).add (hv 9 (by decide) (by decide) 46 rfl)).add (hv 14 (by decide) (by decide) 51 rfl)
      have hS:=hS0
      have hd:=hS.hand [6,5,4,3,2,1,0] [0,1,2,3,4,5] rfl rfl
      refine Stp.mono (o_estore (T:=bI) (g:=g13) (q:=v12) (ix:=v15) (off:=0) (bR.mk ((gi v12 (w64 (v15 - 1))).lS) ((gi v12 (w64 (v15 - 1))).pd) ((gi v12 (w64 (v15 - 1))).tZ) (aS.mk ((gi v12 (w64 (v15 - 1))).aV.aj) ((gi v12 (w64 (v15 - 1))).aV.aC) ((gi v12 (w64 (v15 - 1))).aV.bl) (ay.mk ((gi v12 (w64 (v15 - 1))).aV.aB.aj) ((gi v12 (w64 (v15 - 1))).aV.aB.bA) ((gi v12 (w64 (v15 - 1))).aV.aB.Num) (bD.mk x24 ((gi v12 (w64 (v15 - 1))).aV.aB.az.Value) x25) ((gi v12 (w64 (v15 - 1))).aV.aB.a8)) ((gi v12 (w64 (v15 - 1))).aV.aQ) ((gi v12 (w64 (v15 - 1))).aV.aF))) (gL [(g13.s ((w64 (v15 - 1))).toNat 0),(g13.s ((w64 (v15 - 1))).toNat 1),(g13.s ((w64 (v15 - 1))).toNat 2),(g13.s ((w64 (v15 - 1))).toNat 3),(g13.s ((w64 (v15 - 1))).toNat 4),(g13.s ((w64 (v15 - 1))).toNat 5)]) H hd rfl rfl rfl rfl (by kernel_rfl) rfl rfl ho32 rfl (oV (hd.im 1 rfl) (hd.im 2 rfl) (hd.im 3 rfl) (hd.im 4 rfl) (hd.im 5 rfl) (hd.im 6 rfl)) rfl) ?_
      rintro v w2 hq
      obtain ⟨s39,hq⟩:=hq
      rw [← hq40] at hq
      have hn : v12.length = q40.length:=by rw [hq40,setl_len]
      clear hn
      replace hS:=hS.join [6,5,4,3,2,1,0] [0,1,2,3,4,5] rfl rfl hq
      exact ⟨gL [Gh.mk none 0 s39],(fun _ h => by cases h),hS.sel [0,1,2,3,4,5,6] rfl⟩
     ·intro o ho a w yg22 M Hb hv hO hS0
      obtain rfl:=someE ho
      have H:=((Hb).add (hv 2 (by decide) (by decide) 39 rfl)).add (hv 4 (by decide) (by decide) 41 rfl)
      have hn : v12.length = q40.length:=by rw [hq40,setl_len]
      first | (unfold vL at H; rw [hn] at H) | rw [hn] at H | skip
      clear hn
      have hS:=hS0
      refine Stp.mono (o_evs [] (.pointer (some ⟨ab (Gh.mk g13.a g13.c (yg22 15 0).s).a,ao (Gh.mk g13.a g13.c (yg22 15 0).s).a + ((w64 (v15 - 1))).toNat * 15,none⟩)) (some (fun _ => oka (Gh.mk g13.a g13.c (yg22 15 0).s).a ∧ 0 ≤ (w64 (v15 - 1)) ∧ (w64 (v15 - 1)) < ln q40)) [] H rfl (by kernel_rfl) (fun q e => by cases e; exact ((hS.osl 0 rfl).oki ho41))) ?_
      rintro v w2 ⟨rfl,hq⟩
      replace hS:=hS.below hq.below
      exact ⟨gL [],fun _ _ => rfl,hS.sel [0] rfl⟩
     ·intro o ho a w yg22 M Hb hv hO hS0
      obtain rfl:=someE ho
      have H:=((Hb).add (hv 13 (by decide) (by decide) 50 rfl)).add (hv 16 (by decide) (by decide) 52 rfl)
      have hn : v12.length = q40.length:=by rw [hq40,setl_len]
      first | (unfold vL at H; rw [hn] at H) | rw [hn] at H | skip
      clear hn
      have hS:=hS0
      have hd:=hS.hand [6,5,4,3,2,1,0] [0,1,2,3,4,5] rfl rfl
      refine Stp.mono (o_estore (T:=bI) (g:=(Gh.mk g13.a g13.c (yg22 15 0).s)) (q:=q40) (ix:=(w64 (v15 - 1))) (off:=0) (gi v12 v15) (gL [(g13.s (v15).toNat 0),(g13.s (v15).toNat 1),(g13.s (v15).toNat 2),(g13.s (v15).toNat 3),(g13.s (v15).toNat 4),(g13.s (v15).toNat 5)]) H hd rfl rfl rfl rfl (by kernel_rfl) rfl rfl ho41 rfl (oV (hd.im 1 rfl) (hd.im 2 rfl) (hd.im 3 rfl) (hd.im 4 rfl) (hd.im 5 rfl) (hd.im 6 rfl)) rfl) ?_
      rintro v w2 hq
      obtain ⟨s42,hq⟩:=hq
      rw [← hq43] at hq
      have hn : q40.length = q43.length:=by rw [hq43,setl_len]
      clear hn
      replace hS:=hS.join [6,5,4,3,2,1,0] [0,1,2,3,4,5] rfl rfl hq
      exact ⟨gL [Gh.mk none 0 s42],(fun _ h => by cases h),hS.sel [0,1,2,3,4,5,6] rfl⟩
    have H46 : Fr 53 (fS [0,1,2,3,8,9] [.slice g13.a v12.length g13.c,vI a_,vI b_,.func (.func 21) ⟨[]⟩ ⟨[]⟩,vI v6,vI v15]) _:=(FrG.keep (ks:=[0,1,2,3,8,9]) H45 (by kernel_rfl))
    replace hS : SH M X w [eI aJ ((gi v12 (w64 (v15 - 1))).aV.aF) (g13.s ((w64 (v15 - 1))).toNat 5),eI (Ty.sl tS) ((gi v12 (w64 (v15 - 1))).aV.aQ) (g13.s ((w64 (v15 - 1))).toNat 4),eI ak ((gi v12 (w64 (v15 - 1))).aV.aB.a8) (g13.s ((w64 (v15 - 1))).toNat 3),eI a6 ((gi v12 (w64 (v15 - 1))).aV.aB.az.Value) (g13.s ((w64 (v15 - 1))).toNat 2),eI bf ((gi v12 (w64 (v15 - 1))).aV.bl) (g13.s ((w64 (v15 - 1))).toNat 1),eI au ((gi v12 (w64 (v15 - 1))).aV.aC) (g13.s ((w64 (v15 - 1))).toNat 0),eI aJ ((gi v12 v15).aV.aF) (g13.s (v15).toNat 5),eI (Ty.sl tS) ((gi v12 v15).aV.aQ) (g13.s (v15).toNat 4),eI ak ((gi v12 v15).aV.aB.a8) (g13.s (v15).toNat 3),eI a6 ((gi v12 v15).aV.aB.az.Value) (g13.s (v15).toNat 2),eI bf ((gi v12 v15).aV.bl) (g13.s (v15).toNat 1),eI au ((gi v12 v15).aV.aC) (g13.s (v15).toNat 0),eO 58 bI q43 (Gh.mk (Gh.mk g13.a g13.c (yg22 15 0).s).a (Gh.mk g13.a g13.c (yg22 15 0).s).c (yg22 17 0).s)] _:=hS
    clear hv H45
    have hn : v12.length = q40.length:=by rw [hq40,setl_len]
    first | (unfold vL at hS; rw [hn] at hS) | rw [hn] at hS | skip
    first | (unfold vL at H46; rw [hn] at H46) | rw [hn] at H46 | skip
    clear hn
    have hn : q40.length = q43.length:=by rw [hq43,setl_len]
    first | (unfold vL at hS; rw [hn] at hS) | rw [hn] at hS | skip
    first | (unfold vL at H46; rw [hn] at H46) | rw [hn] at H46 | skip
    clear hn
    replace hS : SH M X w [eI aJ ((gi v12 (w64 (v15 - 1))).aV.aF) (g13.s ((w64 (v15 - 1))).toNat 5),eI (Ty.sl tS) ((gi v12 (w64 (v15 - 1))).aV.aQ) (g13.s ((w64 (v15 - 1))).toNat 4),eI ak ((gi v12 (w64 (v15 - 1))).aV.aB.a8) (g13.s ((w64 (v15 - 1))).toNat 3),eI a6 ((gi v12 (w64 (v15 - 1))).aV.aB.az.Value) (g13.s ((w64 (v15 - 1))).toNat 2),eI bf ((gi v12 (w64 (v15 - 1))).aV.bl) (g13.s ((w64 (v15 - 1))).toNat 1),eI au ((gi v12 (w64 (v15 - 1))).aV.aC) (g13.s ((w64 (v15 - 1))).toNat 0),eI aJ ((gi v12 v15).aV.aF) (g13.s (v15).toNat 5),eI (Ty.sl tS) ((gi v12 v15).aV.aQ) (g13.s (v15).toNat 4),eI ak ((gi v12 v15).aV.aB.a8) (g13.s (v15).toNat 3),eI a6 ((gi v12 v15).aV.aB.az.Value) (g13.s (v15).toNat 2),eI bf ((gi v12 v15).aV.bl) (g13.s (v15).toNat 1),eI au ((gi v12 v15).aV.aC) (g13.s (v15).toNat 0),eO 58 bI q43 (Gh.mk (Gh.mk g13.a g13.c (yg22 15 0).s).a (Gh.mk g13.a g13.c (yg22 15 0).s).c (yg22 17 0).s)] _:=hS
    generalize yg22 15 0 = g47 at H46 hS
    generalize yg22 17 0 = g48 at H46 hS
    have hf49 : (Gh.mk (Gh.mk g13.a g13.c g47.s).a (Gh.mk g13.a g13.c g47.s).c g48.s).a = aI.a ∧ (Gh.mk (Gh.mk g13.a g13.c g47.s).a (Gh.mk g13.a g13.c g47.s).c g48.s).c = aI.c ∧ q43.length = data.length:=⟨hf14.1,hf14.2.1,by rw [hq43,setl_len,hq40,setl_len]; exact hf14.2.2⟩
    replace hS:=hS.sel [12] rfl
    refine t_in H46 hS ?_
    refine t_w [0,1,2,3,8,9] [.slice (Gh.mk (Gh.mk g13.a g13.c g47.s).a (Gh.mk g13.a g13.c g47.s).c g48.s).a q43.length (Gh.mk (Gh.mk g13.a g13.c g47.s).a (Gh.mk g13.a g13.c g47.s).c g48.s).c,vI a_,vI b_,.func (.func 21) ⟨[]⟩ ⟨[]⟩,vI v6,vI (w64 (v15 - 1))] [] ?_
    exact fun _ _ H51 hS => ⟨_,Nat.lt_succ_self _,q43,w64 (v15 - 1),(Gh.mk (Gh.mk g13.a g13.c g47.s).a (Gh.mk g13.a g13.c g47.s).c g48.s),hm,FrG.keep (ks:=[1,2,3,8,0,9]) H51 (by kernel_rfl),hS,hf49⟩
  ·rintro _ _ ⟨g54,H,hS,hf55⟩
   refine t_in H hS ?_
   refine t_w [0,1,2,3,8] [.slice g54.a z9.length g54.c,vI a_,vI b_,.func (.func 21) ⟨[]⟩ ⟨[]⟩,vI (w64 (v6 + 1))] [] ?_
   exact fun _ _ H57 hS => ⟨_,Nat.lt_succ_self _,z9,w64 (v6 + 1),g54,hm,FrG.keep (ks:=[1,2,3,0,8]) H57 (by kernel_rfl),hS,hf55⟩
theorem gX {aI : Gh} (m : Nat) (data : List bR) (a_ : Int) (b_ : Int) (r : List bR) (hm : cX m data a_ b_ = some r) (M : Av) (w : World) (hS : S0 M [eO 58 bI data aI] w) : DoesX Tryz.prog 50 ⟨[vL aI data,vI a_,vI b_,.func (.func 21) ⟨[]⟩ ⟨[]⟩]⟩ w (fun v w' => ∃ (aA : Gh),v = vW [] ∧ (aA.a = aI.a ∧ aA.c = aI.c ∧ r.length = data.length) ∧ SH M (fpl [eO 58 bI data aI]) w [eO 58 bI r aA] w'):=⟨Tryz.call50 _,hV M m   data a_ b_ r hm w hS⟩

def ey (m : Nat) (n_ : Int) : Nat → Int → Int → Option (Int)
  | 0,_,_ => none
  | kk + 1,v6,v7 =>
    cond (decide (v7 ≤ n_)) (
    none) (
    some v6)
def eA (m : Nat) (n_ : Int) (y14 : List bR) : Nat → Int → Option (List bR)
  | 0,_ => none
  | kk + 1,v20 =>
    cond (decide (v20 < n_)) (
    none) (
    some y14)
def dR (m : Nat) (data : List bR) (n_ : Int) : Option (List bR) :=
  Option.bind (
  ey m n_ m 0 20) fun (z5 : Int) =>
  Option.bind (cX m data z5 n_) fun y14 =>
  eA m n_ y14 m 20
theorem jJ {aI : Gh} (M : Av) (m : Nat) (data : List bR) (n_ : Int) (r : List bR) (hm : dR m data n_ = some r) (w : World) (hS : S0 M [eO 58 bI data aI] w) : Calls Tryz.prog 36 ⟨[vL aI data,vI n_,.func (.func 21) ⟨[]⟩ ⟨[]⟩]⟩ w (fun e w' => ∃ v,e = .returned v ∧ ∃ (aA : Gh),v = vW [] ∧ (aA.a = aI.a ∧ aA.c = aI.c ∧ r.length = data.length) ∧ SH M (fpl [eO 58 bI data aI]) w [eO 58 bI r aA] w'):=by
 rw [dR] at hm
 have hS0 : SH M (fpl [eO 58 bI data aI]) w [eO 58 bI data aI] w:=hS
 generalize hX : fpl [eO 58 bI data aI] = X at hS0 ⊢
 clear hS hX
 have hS:=hS0
 clear hS0
 refine calls_entryP Tryz.func36 rfl Tryz.ntmps36 rfl fun _ H => ?_
 have hf_e_data : aI.a = aI.a ∧ aI.c = aI.c ∧ data.length = data.length:=⟨rfl,rfl,rfl⟩
 refine t_in H hS ?_
 refine t_r [0,1,2,6] [vL aI data,vI n_,.func (.func 21) ⟨[]⟩ ⟨[]⟩,vI 20] [] ?_
 refine t_r [0,1,2,6,7,8] [vL aI data,vI n_,.func (.func 21) ⟨[]⟩ ⟨[]⟩,vI 20,vI 0,vI 20] [] ?_
 obtain ⟨z5,hz,hm⟩:=bindE hm
 intro _ _ H4 hS
 refine w_cut (fun a' w' => Fr 63 (fS [0,1,2,6,7] [vL aI data,vI n_,.func (.func 21) ⟨[]⟩ ⟨[]⟩,vI 20,vI z5]) a' ∧ SH M X w [eO 58 bI data aI] w' ∧ (aI.a = aI.a ∧ aI.c = aI.c ∧ data.length = data.length)) ?_ ?_
 ·replace hm:=hz
  refine t_in H4 hS (t_block ?_)
  intro _ _ H4 hS
  refine w_loop (fun kk a' w' => ∃ (v6 : Int) (v7 : Int),ey m n_ kk v6 v7 = some _ ∧ Fr 63 (fS [0,1,2,6,7,8] [vL aI data,vI n_,.func (.func 21) ⟨[]⟩ ⟨[]⟩,vI 20,vI v6,vI v7]) a' ∧ SH M X w [eO 58 bI data aI] w' ∧ (aI.a = aI.a ∧ aI.c = aI.c ∧ data.length = data.length)) ⟨_,0,20,hm,FrG.keep (ks:=[0,1,2,6,7,8]) H4 (by kernel_rfl),hS,hf_e_data⟩ ?_
  clear hm H4 hS
  rintro kk _ _ ⟨v6,v7,hm,H,hS,hf_e_data⟩
  cases kk with
  | zero => exact noneE hm
  | succ kk =>
   rw [ey] at hm
   refine t_in H hS (t_seq ?_)
   refine t_r [0,1,2,6,7,8,13] [vL aI data,vI n_,.func (.func 21) ⟨[]⟩ ⟨[]⟩,vI 20,vI v6,vI v7,vB (decide (v7 ≤ n_))] [] ?_
   refine t_im hm (fun hm => ?_) (fun hm => ?c10)
   case c10 =>
    refine t_exit ?_
    obtain rfl:=someE hm
    exact fun _ _ H9 hS => ⟨FrG.keep (ks:=[0,1,2,6,7]) H9 (by kernel_rfl),hS,hf_e_data⟩
   refine t_skip (t_block ?_)
   intro _ _ H9 hS
   exact noneE hm
 ·rintro _ _ ⟨H,hS,hf_e_data⟩
  refine t_in H hS (t_starts ?_)
  refine t_b 4 [0,1,2,6,23,24,25,26] [vL aI data,vI n_,.func (.func 21) ⟨[]⟩ ⟨[]⟩,vI 20,vL aI data,vI z5,vI n_,.func (.func 21) ⟨[]⟩ ⟨[]⟩] [] ?_
  obtain ⟨y14,hy14,hm⟩:=bindE hm
  intro _ _ H13 hS
  have hd:=hS.hand [0] [] rfl rfl
  refine m_stp [27,0,1,2,6] (fS [0,1,2,6] [vL aI data,vI n_,.func (.func 21) ⟨[]⟩ ⟨[]⟩,vI 20]) H13 rfl rfl rfl rfl (o_callx H13 rfl rfl (gX (aI:=aI) m _ _ _ _ hy14 _ _ hd)) (fun _ => rfl) fun _ _ v H17 hq => ?_
  obtain ⟨g15,rfl,hb18,hq⟩:=hq
  first | (unfold vL at H17; rw [← hb18.1,← hb18.2.1,← hb18.2.2] at H17) | rw [← hb18.1,← hb18.2.1,← hb18.2.2] at H17 | skip
  first | (unfold vL at hS; rw [← hb18.1,← hb18.2.1,← hb18.2.2] at hS) | rw [← hb18.1,← hb18.2.1,← hb18.2.2] at hS | skip
  have hf19 : g15.a = aI.a ∧ g15.c = aI.c ∧ y14.length = data.length:=⟨hb18.1.trans hf_e_data.1,hb18.2.1.trans hf_e_data.2.1,hb18.2.2.trans hf_e_data.2.2⟩
  replace hS:=hS.join [0] [] rfl rfl hq
  refine t_in H17 hS (t_end (t_block ?_))
  intro _ _ H17 hS
  refine w_loop (fun kk a' w' => ∃ (v20 : Int),eA m n_ y14 kk v20 = some _ ∧ Fr 63 (fS [0,1,2,6] [vL g15 y14,vI n_,.func (.func 21) ⟨[]⟩ ⟨[]⟩,vI v20]) a' ∧ SH M X w [eO 58 bI y14 g15] w' ∧ (g15.a = aI.a ∧ g15.c = aI.c ∧ y14.length = data.length)) ⟨_,20,hm,FrG.keep (ks:=[0,1,2,6]) H17 (by kernel_rfl),hS,hf19⟩ ?_
  clear hm H17 hS
  rintro kk _ _ ⟨v20,hm,H,hS,hf19⟩
  cases kk with
  | zero => exact noneE hm
  | succ kk =>
   rw [eA] at hm
   refine t_in H hS (t_seq ?_)
   refine t_r [0,1,2,6,30] [vL g15 y14,vI n_,.func (.func 21) ⟨[]⟩ ⟨[]⟩,vI v20,vB (decide (v20 < n_))] [] ?_
   refine t_im hm (fun hm => ?c23) (fun hm => ?_)
   case c23 =>
    refine t_skip (t_block ?_)
    intro _ _ H22 hS
    exact noneE hm
   refine t_exit ?_
   obtain rfl:=someE hm
   intro _ _ H22 hS
   try dsimp only
   exact retR0 H22 rfl ⟨_,rfl,g15,rfl,hf19,(hS.sel [0] rfl)⟩
theorem jv {aI : Gh} (m : Nat) (data : List bR) (n_ : Int) (r : List bR) (hm : dR m data n_ = some r) (M : Av) (w : World) (hS : S0 M [eO 58 bI data aI] w) : DoesX Tryz.prog 36 ⟨[vL aI data,vI n_,.func (.func 21) ⟨[]⟩ ⟨[]⟩]⟩ w (fun v w' => ∃ (aA : Gh),v = vW [] ∧ (aA.a = aI.a ∧ aA.c = aI.c ∧ r.length = data.length) ∧ SH M (fpl [eO 58 bI data aI]) w [eO 58 bI r aA] w'):=⟨Tryz.call36 _,jJ M m   data n_ r hm w hS⟩

def cx (m : Nat) (x_ : List bR) : Option (List bR) :=
  Option.bind (dR m x_ (ln x_)) fun y3 =>
  some y3
theorem gu {dG : Gh} (M : Av) (m : Nat) (x_ : List bR) (r : List bR) (hm : cx m x_ = some r) (w : World) (hS : S0 M [eO 58 bI x_ dG] w) : Calls Tryz.prog 20 ⟨[vL dG x_,.func (.func 21) ⟨[]⟩ ⟨[]⟩]⟩ w (fun e w' => ∃ v,e = .returned v ∧ ∃ (aA : Gh),v = vW [] ∧ (aA.a = dG.a ∧ aA.c = dG.c ∧ r.length = x_.length) ∧ SH M (fpl [eO 58 bI x_ dG]) w [eO 58 bI r aA] w'):=by
 rw [cx] at hm
 have hS0 : SH M (fpl [eO 58 bI x_ dG]) w [eO 58 bI x_ dG] w:=hS
 generalize hX : fpl [eO 58 bI x_ dG] = X at hS0 ⊢
 clear hS hX
 have hS:=hS0
 clear hS0
 refine calls_entryP Tryz.func20 rfl Tryz.ntmps20 rfl fun _ H => ?_
 have hf_e_x_ : dG.a = dG.a ∧ dG.c = dG.c ∧ x_.length = x_.length:=⟨rfl,rfl,rfl⟩
 refine t_in H hS (t_start ?_)
 refine t_b 4 [4,6,7] [vL dG x_,vI (ln x_),.func (.func 21) ⟨[]⟩ ⟨[]⟩] [] ?_
 obtain ⟨y3,hy3,hm⟩:=bindE hm
 intro _ _ H2 hS
 have hd:=hS.hand [0] [] rfl rfl
 refine m_stp [8] [] H2 rfl rfl rfl rfl (o_callx H2 rfl rfl (jv (aI:=dG) m _ _ _ hy3 _ _ hd)) (fun _ => rfl) fun _ _ v H6 hq => ?_
 obtain ⟨g4,rfl,hb7,hq⟩:=hq
 first | (unfold vL at H6; rw [← hb7.1,← hb7.2.1,← hb7.2.2] at H6) | rw [← hb7.1,← hb7.2.1,← hb7.2.2] at H6 | skip
 first | (unfold vL at hS; rw [← hb7.1,← hb7.2.1,← hb7.2.2] at hS) | rw [← hb7.1,← hb7.2.1,← hb7.2.2] at hS | skip
 have hf8 : g4.a = dG.a ∧ g4.c = dG.c ∧ y3.length = x_.length:=⟨hb7.1.trans hf_e_x_.1,hb7.2.1.trans hf_e_x_.2.1,hb7.2.2.trans hf_e_x_.2.2⟩
 replace hS:=hS.join [0] [] rfl rfl hq
 refine t_in H6 hS (t_end ?_)
 obtain rfl:=someE hm
 intro _ _ H6 hS
 try dsimp only
 exact retR0 H6 rfl ⟨_,rfl,g4,rfl,hf8,(hS.sel [0] rfl)⟩
theorem gk {dG : Gh} (m : Nat) (x_ : List bR) (r : List bR) (hm : cx m x_ = some r) (M : Av) (w : World) (hS : S0 M [eO 58 bI x_ dG] w) : DoesX Tryz.prog 20 ⟨[vL dG x_,.func (.func 21) ⟨[]⟩ ⟨[]⟩]⟩ w (fun v w' => ∃ (aA : Gh),v = vW [] ∧ (aA.a = dG.a ∧ aA.c = dG.c ∧ r.length = x_.length) ∧ SH M (fpl [eO 58 bI x_ dG]) w [eO 58 bI r aA] w'):=⟨Tryz.call20 _,gu M m   x_ r hm w hS⟩

def j0 (m : Nat) (y33 : Mi × (List (List Str)) × (List aw)) (y48 : List (List Str)) : Nat → (List bR) → Int → Option (List bR)
  | 0,_,_ => none
  | kk + 1,v57,v59 =>
    cond (decide (v59 < (ln y33.2.2))) (
    chk (0 ≤ v59 ∧ v59 < ln y33.2.2) <|
    lt ((gi y33.2.2 v59).aM.aB.az.bK) fun x63 =>
    Option.bind (
    lt (decide (0 < (ln ((gi y33.2.2 v59).jN)))) fun x74 =>
    cond x74 (
    Option.bind (ex m y48 ((gi y33.2.2 v59).ba) ((gi y33.2.2 v59).jN) ((gi y33.2.2 v59).aM.aj) ((gi y33.2.2 v59).aM.aC) ((gi y33.2.2 v59).aM.bl) ((gi y33.2.2 v59).aM.aB.aj) ((gi y33.2.2 v59).aM.aB.bA) ((gi y33.2.2 v59).aM.aB.Num) ((gi y33.2.2 v59).aM.aB.az.bA) ((gi y33.2.2 v59).aM.aB.az.Value) x63 ((gi y33.2.2 v59).aM.aB.a8) ((gi y33.2.2 v59).aM.aQ) ((gi y33.2.2 v59).aM.aF)) fun y77 =>
    some y77) (
    some (ln y48))) fun (z73 : Int) =>
    chk (ln v57 + ln ([(bR.mk ((gi y33.2.2 v59).ba) z73 0 (aS.mk ((gi y33.2.2 v59).aM.aj) ((gi y33.2.2 v59).aM.aC) ((gi y33.2.2 v59).aM.bl) (ay.mk ((gi y33.2.2 v59).aM.aB.aj) ((gi y33.2.2 v59).aM.aB.bA) ((gi y33.2.2 v59).aM.aB.Num) (bD.mk ((gi y33.2.2 v59).aM.aB.az.bA) ((gi y33.2.2 v59).aM.aB.az.Value) x63) ((gi y33.2.2 v59).aM.aB.a8)) ((gi y33.2.2 v59).aM.aQ) ((gi y33.2.2 v59).aM.aF)))] : List bR) ≤ 137438953472) <|
    lt (v57 ++ ([(bR.mk ((gi y33.2.2 v59).ba) z73 0 (aS.mk ((gi y33.2.2 v59).aM.aj) ((gi y33.2.2 v59).aM.aC) ((gi y33.2.2 v59).aM.bl) (ay.mk ((gi y33.2.2 v59).aM.aB.aj) ((gi y33.2.2 v59).aM.aB.bA) ((gi y33.2.2 v59).aM.aB.Num) (bD.mk ((gi y33.2.2 v59).aM.aB.az.bA) ((gi y33.2.2 v59).aM.aB.az.Value) x63) ((gi y33.2.2 v59).aM.aB.a8)) ((gi y33.2.2 v59).aM.aQ) ((gi y33.2.2 v59).aM.aF)))] : List bR)) fun q94 =>
    j0 m y33 y48 kk q94 (w64 (v59 + 1))) (
    some v57)
def jA (m : Nat) (l_ : List bM) (e_ : iu) : Nat → (List bR) → Int → Option (List bR)
  | 0,_,_ => none
  | kk + 1,v25,v27 =>
    cond (decide (v27 ≤ 3)) (
    Option.bind (
    Option.bind (i7 m l_ e_ v27) fun y33 =>
    Option.bind (fJ m y33.1 y33.2.1 y33.2.2) fun y48 =>
    j0 m y33 y48 m v25 0) fun (z30 : List bR) =>
    jA m l_ e_ kk z30 (wu8 (v27 + 1))) (
    some v25)
def jC (m : Nat) (oC : List bR) : Nat → (List bR) → Int → Option (List bR)
  | 0,_,_ => none
  | kk + 1,kX,fo =>
    cond (decide (fo < (ln oC))) (
    chk (0 ≤ fo ∧ fo < ln kX) <|
    lt (setl kX fo (bR.mk ((gi kX fo).lS) ((gi kX fo).pd) fo ((gi kX fo).aV))) fun q136 =>
    jC m oC kk q136 (w64 (fo + 1))) (
    some kX)
def iW (m : Nat) (l_ : List bM) (e_ : iu) : Option ((List bR) × Int) :=
  Option.bind (gp m l_) fun y6 =>
  cond (y6 != 0) (
  some (([] : List bR),y6)) (
  cond (!(fM e_)) (
  some (([] : List bR),2)) (
  Option.bind (
  jA m l_ e_ m ([] : List bR) 1) fun (z21 : List bR) =>
  Option.bind (cx m z21) fun oC =>
  Option.bind (
  jC m oC m oC 0) fun (wm : List bR) =>
  some (wm,0)))
theorem jj {aa : Gh} (m : Nat) (l_ : List bM) (e_ : iu) (r : (List bR) × Int) (hm : iW m l_ e_ = some r) : DoesM Tryz.prog 9 ⟨[.slice aa.a l_.length aa.c,vG [vI e_.ct]]⟩ [eI bx l_ aa,gE4,Ent.tab 0 (Lib.pow10Tab.map fun z => Value.int .u64 z)] (fun (aA : Gh) => vW [.slice aA.a r.1.length aA.c,vI r.2]) (fun aA => [eO 58 bI r.1 aA]):=by
 rw [iW] at hm
 refine f_mem (Tryz.call9 _) Tryz.func9 Tryz.ntmps9 fun M X w => (t_starts ?_)
 refine t_m [] [0,1,2] [0] [.slice aa.a l_.length aa.c] (fun _ _ H hd => o_box [vI e_.ct] H hd rfl rfl) fun b1 => ?_
 refine t_b 3 [0,3] [.slice aa.a l_.length aa.c,vP b1] [] (t_end (t_seq ?_))
 obtain ⟨y6,hy6,hm⟩:=bindE hm
 refine t_r [0,3,6] [.slice aa.a l_.length aa.c,vP b1,vI y6] [kr fun _ hS => gw (aa:=aa) m _ _ hy6 _ (s0im s0nil (hS.im 1 rfl))] ?_
 refine t_r [0,3,6,18] [.slice aa.a l_.length aa.c,vP b1,vI y6,vB (y6 != 0)] [] ?_
 refine t_im hm (fun hm => ?c147) (fun hm => ?_)
 case c147 =>
  refine t_r [4,5] [vO,vI y6] [] (t_sel [2,3] (t_ret ?_))
  obtain rfl:=someE hm
  refine t_nil 58 bI ?_
  exact t_g Gh.nil [0] rs2
 refine t_skip (t_seq ?_)
 refine t_r [0,3,22] [.slice aa.a l_.length aa.c,vP b1,vB (!(fM e_))] [kE 0 1,kc (l7 e_)] ?_
 refine t_im hm (fun hm => ?c146) (fun hm => ?_)
 case c146 =>
  refine t_r [4,5] [vO,vI 2] [] (t_sel [2,3] (t_ret ?_))
  obtain rfl:=someE hm
  refine t_nil 58 bI ?_
  exact t_g Gh.nil [0] rs2
 refine t_skip ?_
 refine t_r [0,3,7] [.slice aa.a l_.length aa.c,vP b1,vO] [] ?_
 obtain ⟨z21,hz,hm⟩:=bindE hm
 refine t_cutg [7] (fun (nb : Gh) => [.slice nb.a z21.length nb.c]) (fun nb => [eO 58 bI z21 nb,eB b1 [vI e_.ct],eI bx l_ aa,gE4,Ent.tab 0 (Lib.pow10Tab.map fun z => Value.int .u64 z)]) ?_ ?_
 ·replace hm:=hz
  refine t_r [0,3,7,8] [.slice aa.a l_.length aa.c,vP b1,vO,vU 1] [] (t_block ?_)
  refine t_nil 58 bI ?_
  intro _ _ H23 hS
  refine w_loop (fun kk a' w' => ∃ (v25 : List bR) (v27 : Int) (g26 : Gh),jA m l_ e_ kk v25 v27 = some _ ∧ Fr 73 (fS [0,3,7,8] [.slice aa.a l_.length aa.c,vP b1,.slice g26.a v25.length g26.c,vU v27]) a' ∧ SH M X w [eO 58 bI v25 g26,eB b1 [vI e_.ct],eI bx l_ aa,gE4,Ent.tab 0 (Lib.pow10Tab.map fun z => Value.int .u64 z)] w') ⟨_,([] : List bR),1,Gh.nil,hm,FrG.keep (ks:=[0,3,7,8]) H23 (by kernel_rfl),hS⟩ ?_
  clear hm H23 hS
  rintro kk _ _ ⟨v25,v27,g26,hm,H,hS⟩
  cases kk with
  | zero => exact noneE hm
  | succ kk =>
   rw [jA] at hm
   refine t_in H hS (t_seq ?_)
   refine t_r [0,3,7,8,24] [.slice aa.a l_.length aa.c,vP b1,.slice g26.a v25.length g26.c,vU v27,vB (decide (v27 ≤ 3))] [] ?_
   refine t_im hm (fun hm => ?_) (fun hm => ?c109)
   case c109 =>
    refine t_exit ?_
    obtain rfl:=someE hm
    exact t_eg g26 [7]
   refine t_skip ?_
   obtain ⟨z30,hz,hm⟩:=bindE hm
   refine t_cutg [0,3,8,7] (fun (vD : Gh) => [.slice aa.a l_.length aa.c,vP b1,vU v27,.slice vD.a z30.length vD.c]) (fun vD => [eO 58 bI z30 vD,eB b1 [vI e_.ct],eI bx l_ aa,gE4,Ent.tab 0 (Lib.pow10Tab.map fun z => Value.int .u64 z)]) ?_ ?_
   ·replace hm:=hz
    refine t_block (t_starts ?_)
    refine t_b 3 [0,3,7,8,27,28,29] [.slice aa.a l_.length aa.c,vP b1,.slice g26.a v25.length g26.c,vU v27,.slice aa.a l_.length aa.c,vG [vI e_.ct],vU v27] [kE 1 1] ?_
    obtain ⟨y33,hy33,hm⟩:=bindE hm
    intro _ _ H32 hS
    have hd:=hS.hand [2,3,4] [0,1,2,3,4] rfl rfl
    refine m_stp [30,0,3,7,8] (fS [0,3,7,8] [.slice aa.a l_.length aa.c,vP b1,.slice g26.a v25.length g26.c,vU v27]) H32 rfl rfl rfl rfl (o_callx H32 rfl rfl (my (aa:=aa) m _ _ _ _ hy33 _ _ hd)) (fun _ => rfl) fun _ _ v H40 hq => ?_
    obtain ⟨b34,g35,g37,rfl,hq⟩:=hq
    replace hS:=hS.join [2,3,4] [0,1,2,3,4] rfl rfl hq
    refine t_in H40 hS ?_
    refine t_m [] [0,1,2,3,4,5,6,7] [0,3,7,8,30] [.slice aa.a l_.length aa.c,vP b1,.slice g26.a v25.length g26.c,vU v27,vG [.map (some b34),.slice g35.a y33.2.1.length g35.c,.slice g37.a y33.2.2.length g37.c]] (fun _ _ H40 hd => o_alloc [.map none,vO,vO] (z:=vG [.map none,vO,vO]) hd (by kernel_rfl) rfl) fun b41 => ?_
    refine t_m0 [0] [1,2,3,4,5,6,7,8] [0,3,7,8,9] [.slice aa.a l_.length aa.c,vP b1,.slice g26.a v25.length g26.c,vU v27,vP b41] (fun _ _ H43 hd => o_store [.map (some b34),.slice g35.a y33.2.1.length g35.c,.slice g37.a y33.2.2.length g37.c] H43 hd rfl rfl (by kernel_rfl) rfl rfl rfl) (t_end (t_starts ?_))
    refine t_b 1 [0,3,7,8,9,31] [.slice aa.a l_.length aa.c,vP b1,.slice g26.a v25.length g26.c,vU v27,vP b41,vG [.map (some b34),.slice g35.a y33.2.1.length g35.c,.slice g37.a y33.2.2.length g37.c]] [kE 0 3] ?_
    refine t_frz [2,0,1,3,4,5,6,7,8] ?_
    refine t_frz [3,0,1,2,4,5,6,7,8] ?_
    obtain ⟨y48,hy48,hm⟩:=bindE hm
    refine t_c [3,1,0,8] [0,1,2,4,5,6,7,8] [0,3,7,8,9] [.slice aa.a l_.length aa.c,vP b1,.slice g26.a v25.length g26.c,vU v27,vP b41] (iS (m8:=b34) (iT:=g35) (k6:=g37) m _ _ _ _ hy48) fun g49 => ?_
    refine t_b 3 [0,3,7,8,9,10] [.slice aa.a l_.length aa.c,vP b1,.slice g26.a v25.length g26.c,vU v27,vP b41,.slice g49.a y48.length g49.c] [] (t_end ?_)
    refine t_r [0,3,7,8,10,34,35,36] [.slice aa.a l_.length aa.c,vP b1,.slice g26.a v25.length g26.c,vU v27,.slice g49.a y48.length g49.c,.slice g37.a y33.2.2.length g37.c,vI (ln y33.2.2),vI 0] [kb 4 2] (t_sel [0,2,5,6,7,8,9] (t_block ?_))
    intro _ _ H56 hS
    refine w_loop (fun kk a' w' => ∃ (v57 : List bR) (v59 : Int) (g58 : Gh),j0 m y33 y48 kk v57 v59 = some _ ∧ Fr 73 (fS [0,3,8,10,34,35,7,36] [.slice aa.a l_.length aa.c,vP b1,vU v27,.slice g49.a y48.length g49.c,.slice g37.a y33.2.2.length g37.c,vI (ln y33.2.2),.slice g58.a v57.length g58.c,vI v59]) a' ∧ SH M X w [eO 55 (Ty.sl tS) y48 g49,eI am y33.2.2 g37,eO 58 bI v57 g58,eB b1 [vI e_.ct],eI bx l_ aa,gE4,Ent.tab 0 (Lib.pow10Tab.map fun z => Value.int .u64 z)] w') ⟨_,v25,0,g26,hm,FrG.keep (ks:=[0,3,8,10,34,35,7,36]) H56 (by kernel_rfl),hS⟩ ?_
    clear hm H56 hS
    rintro kk _ _ ⟨v57,v59,g58,hm,H,hS⟩
    cases kk with
    | zero => exact noneE hm
    | succ kk =>
     rw [j0] at hm
     refine t_in H hS ?_
     refine t_r [0,3,7,8,10,34,35,36,37] [.slice aa.a l_.length aa.c,vP b1,.slice g58.a v57.length g58.c,vU v27,.slice g49.a y48.length g49.c,.slice g37.a y33.2.2.length g37.c,vI (ln y33.2.2),vI v59,vB (decide (v59 < (ln y33.2.2)))] [] (t_seq ?_)
     refine t_im hm (fun hm => ?_) (fun hm => ?c103)
     case c103 =>
      refine t_exit ?_
      obtain rfl:=someE hm
      refine t_sel [2,3,4,5,6] ?_
      exact t_eg g58 [0,3,8,7]
     refine t_skip (t_seq (t_block (t_starts ?_)))
     obtain ⟨ho62,hm⟩:=chkE hm
     obtain ⟨x63,hx63,hm⟩:=letE hm
     refine t_b 2 [0,3,7,8,10,34,35,36,39] [.slice aa.a l_.length aa.c,vP b1,.slice g58.a v57.length g58.c,vU v27,.slice g49.a y48.length g49.c,.slice g37.a y33.2.2.length g37.c,vI (ln y33.2.2),vI v59,vG [vI ((gi y33.2.2 v59).ba),.slice (g37.s (v59).toNat 0).a (((gi y33.2.2 v59).jN).length) (g37.s (v59).toNat 0).c,vU ((gi y33.2.2 v59).aM.aj),.slice (g37.s (v59).toNat 1).a (((gi y33.2.2 v59).aM.aC).length) (g37.s (v59).toNat 1).c,.slice (g37.s (v59).toNat 2).a (((gi y33.2.2 v59).aM.bl).length) (g37.s (v59).toNat 2).c,vU ((gi y33.2.2 v59).aM.aB.aj),vS (gi y33.2.2 v59).aM.aB.bA,vI ((gi y33.2.2 v59).aM.aB.Num),vS (gi y33.2.2 v59).aM.aB.az.bA,.slice (g37.s (v59).toNat 3).a (((gi y33.2.2 v59).aM.aB.az.Value).length) (g37.s (v59).toNat 3).c,vB x63,.slice (g37.s (v59).toNat 4).a (((gi y33.2.2 v59).aM.aB.a8).length) (g37.s (v59).toNat 4).c,.slice (g37.s (v59).toNat 5).a (((gi y33.2.2 v59).aM.aQ).length) (g37.s (v59).toNat 5).c,.slice (g37.s (v59).toNat 6).a (((gi y33.2.2 v59).aM.aF).length) (g37.s (v59).toNat 6).c]] [ki 1 ho62,⟨some (.agg ⟨e18 (gi y33.2.2 v59) (g37.s (v59).toNat)⟩),fun wz => V.atN (ab g37.a) (ao g37.a + (v59).toNat * 14) (e18 (gi y33.2.2 v59) (g37.s (v59).toNat)) 0 wz,fun _ hS => ((hS.im 1 rfl).atA ho62 0 rfl)⟩] ?_ (he:=by subst hx63; kernel_rfl)
     refine t_m [] [0,1,2,3,4,5,6] [0,3,7,8,10,34,35,36,39] [.slice aa.a l_.length aa.c,vP b1,.slice g58.a v57.length g58.c,vU v27,.slice g49.a y48.length g49.c,.slice g37.a y33.2.2.length g37.c,vI (ln y33.2.2),vI v59,vG [vI ((gi y33.2.2 v59).ba),.slice (g37.s (v59).toNat 0).a (((gi y33.2.2 v59).jN).length) (g37.s (v59).toNat 0).c,vU ((gi y33.2.2 v59).aM.aj),.slice (g37.s (v59).toNat 1).a (((gi y33.2.2 v59).aM.aC).length) (g37.s (v59).toNat 1).c,.slice (g37.s (v59).toNat 2).a (((gi y33.2.2 v59).aM.bl).length) (g37.s (v59).toNat 2).c,vU ((gi y33.2.2 v59).aM.aB.aj),vS (gi y33.2.2 v59).aM.aB.bA,vI ((gi y33.2.2 v59).aM.aB.Num),vS (gi y33.2.2 v59).aM.aB.az.bA,.slice (g37.s (v59).toNat 3).a (((gi y33.2.2 v59).aM.aB.az.Value).length) (g37.s (v59).toNat 3).c,vB x63,.slice (g37.s (v59).toNat 4).a (((gi y33.2.2 v59).aM.aB.a8).length) (g37.s (v59).toNat 4).c,.slice (g37.s (v59).toNat 5).a (((gi y33.2.2 v59).aM.aQ).length) (g37.s (v59).toNat 5).c,.slice (g37.s (v59).toNat 6).a (((gi y33.2.2 v59).aM.aF).length) (g37.s (v59).toNat 6).c]] (fun _ _ H65 hd => o_alloc [vI 0,vO,vU 0,vO,vO,vU 0,vN,vI 0,vN,vO,vF,vO,vO,vO] (z:=vG [vI 0,vO,vU 0,vO,vO,vU 0,vN,vI 0,vN,vO,vF,vO,vO,vO]) hd (by kernel_rfl) rfl) fun b66 => ?_
     refine t_m0 [0] [1,2,3,4,5,6,7] [0,3,7,8,10,12,34,35,36] [.slice aa.a l_.length aa.c,vP b1,.slice g58.a v57.length g58.c,vU v27,.slice g49.a y48.length g49.c,vP b66,.slice g37.a y33.2.2.length g37.c,vI (ln y33.2.2),vI v59] (fun _ _ H68 hd => o_store [vI ((gi y33.2.2 v59).ba),.slice (g37.s (v59).toNat 0).a (((gi y33.2.2 v59).jN).length) (g37.s (v59).toNat 0).c,vU ((gi y33.2.2 v59).aM.aj),.slice (g37.s (v59).toNat 1).a (((gi y33.2.2 v59).aM.aC).length) (g37.s (v59).toNat 1).c,.slice (g37.s (v59).toNat 2).a (((gi y33.2.2 v59).aM.bl).length) (g37.s (v59).toNat 2).c,vU ((gi y33.2.2 v59).aM.aB.aj),vS (gi y33.2.2 v59).aM.aB.bA,vI ((gi y33.2.2 v59).aM.aB.Num),vS (gi y33.2.2 v59).aM.aB.az.bA,.slice (g37.s (v59).toNat 3).a (((gi y33.2.2 v59).aM.aB.az.Value).length) (g37.s (v59).toNat 3).c,vB x63,.slice (g37.s (v59).toNat 4).a (((gi y33.2.2 v59).aM.aB.a8).length) (g37.s (v59).toNat 4).c,.slice (g37.s (v59).toNat 5).a (((gi y33.2.2 v59).aM.aQ).length) (g37.s (v59).toNat 5).c,.slice (g37.s (v59).toNat 6).a (((gi y33.2.2 v59).aM.aF).length) (g37.s (v59).toNat 6).c] H68 hd rfl rfl (by kernel_rfl) rfl rfl rfl) (t_end ?_)
     refine t_r [0,3,7,8,10,12,13,34,35,36] [.slice aa.a l_.length aa.c,vP b1,.slice g58.a v57.length g58.c,vU v27,.slice g49.a y48.length g49.c,vP b66,vI (ln y48),.slice g37.a y33.2.2.length g37.c,vI (ln y33.2.2),vI v59] [] ?_
     obtain ⟨z73,hz,hm⟩:=bindE hm
     refine t_cut [0,3,7,8,10,12,34,35,36,13] [.slice aa.a l_.length aa.c,vP b1,.slice g58.a v57.length g58.c,vU v27,.slice g49.a y48.length g49.c,vP b66,.slice g37.a y33.2.2.length g37.c,vI (ln y33.2.2),vI v59,vI z73] [eB b66 [vI ((gi y33.2.2 v59).ba),.slice (g37.s (v59).toNat 0).a (((gi y33.2.2 v59).jN).length) (g37.s (v59).toNat 0).c,vU ((gi y33.2.2 v59).aM.aj),.slice (g37.s (v59).toNat 1).a (((gi y33.2.2 v59).aM.aC).length) (g37.s (v59).toNat 1).c,.slice (g37.s (v59).toNat 2).a (((gi y33.2.2 v59).aM.bl).length) (g37.s (v59).toNat 2).c,vU ((gi y33.2.2 v59).aM.aB.aj),vS (gi y33.2.2 v59).aM.aB.bA,vI ((gi y33.2.2 v59).aM.aB.Num),vS (gi y33.2.2 v59).aM.aB.az.bA,.slice (g37.s (v59).toNat 3).a (((gi y33.2.2 v59).aM.aB.az.Value).length) (g37.s (v59).toNat 3).c,vB x63,.slice (g37.s (v59).toNat 4).a (((gi y33.2.2 v59).aM.aB.a8).length) (g37.s (v59).toNat 4).c,.slice (g37.s (v59).toNat 5).a (((gi y33.2.2 v59).aM.aQ).length) (g37.s (v59).toNat 5).c,.slice (g37.s (v59).toNat 6).a (((gi y33.2.2 v59).aM.aF).length) (g37.s (v59).toNat 6).c],eO 55 (Ty.sl tS) y48 g49,eI am y33.2.2 g37,eO 58 bI v57 g58,eB b1 [vI e_.ct],eI bx l_ aa,gE4,Ent.tab 0 (Lib.pow10Tab.map fun z => Value.int .u64 z)] ?_ ?_
     ·replace hm:=hz
      obtain ⟨x74,hx74,hm⟩:=letE hm
      refine t_r [0,3,7,8,10,12,13,34,35,36,45] [.slice aa.a l_.length aa.c,vP b1,.slice g58.a v57.length g58.c,vU v27,.slice g49.a y48.length g49.c,vP b66,vI (ln y48),.slice g37.a y33.2.2.length g37.c,vI (ln y33.2.2),vI v59,vB x74] [kb 0 1] ?_ (he:=by subst hx74; kernel_rfl)
      refine t_im hm (fun hm => ?_) (fun hm => ?c80)
      case c80 =>
       refine t_skip ?_
       obtain rfl:=someE hm
       exact t_e [0,3,7,8,10,12,34,35,36,13]
      obtain ⟨y77,hy77,hm⟩:=bindE hm
      refine t_w [0,3,7,8,10,12,13,34,35,36] [.slice aa.a l_.length aa.c,vP b1,.slice g58.a v57.length g58.c,vU v27,.slice g49.a y48.length g49.c,vP b66,vI y77,.slice g37.a y33.2.2.length g37.c,vI (ln y33.2.2),vI v59] [kr fun _ hS => iI (g_s:=g49) (bY:=b66) (eQ:=(g37.s (v59).toNat 0)) (bW:=(g37.s (v59).toNat 1)) (d6:=(g37.s (v59).toNat 2)) (br:=(g37.s (v59).toNat 3)) (bS:=(g37.s (v59).toNat 4)) (d5:=(g37.s (v59).toNat 5)) (d8:=(g37.s (v59).toNat 6)) m _ _ _ _ _ _ _ _ _ _ _ _ _ _ _ _ hy77 _ (s0im (s0ro (s0im (s0im (s0im (s0im (s0im (s0im (s0im s0nil (mI ((hS.im 2 rfl).el ho62))) (mu ((hS.im 2 rfl).el ho62))) (mE ((hS.im 2 rfl).el ho62))) (mC ((hS.im 2 rfl).el ho62))) (mo ((hS.im 2 rfl).el ho62))) (mh ((hS.im 2 rfl).el ho62))) (qt ((hS.im 2 rfl).el ho62))) (hS.bk 0 rfl)) (hS.osl 1 rfl))] ?_
      obtain rfl:=someE hm
      exact t_e [0,3,7,8,10,12,34,35,36,13]
     ·refine t_start ?_
      refine t_b 7 [0,3,8,10,34,35,36,49,55] [.slice aa.a l_.length aa.c,vP b1,vU v27,.slice g49.a y48.length g49.c,.slice g37.a y33.2.2.length g37.c,vI (ln y33.2.2),vI v59,.slice g58.a v57.length g58.c,vG [vI ((gi y33.2.2 v59).ba),vI z73,vI 0,vU ((gi y33.2.2 v59).aM.aj),.slice (g37.s (v59).toNat 1).a (((gi y33.2.2 v59).aM.aC).length) (g37.s (v59).toNat 1).c,.slice (g37.s (v59).toNat 2).a (((gi y33.2.2 v59).aM.bl).length) (g37.s (v59).toNat 2).c,vU ((gi y33.2.2 v59).aM.aB.aj),vS (gi y33.2.2 v59).aM.aB.bA,vI ((gi y33.2.2 v59).aM.aB.Num),vS (gi y33.2.2 v59).aM.aB.az.bA,.slice (g37.s (v59).toNat 3).a (((gi y33.2.2 v59).aM.aB.az.Value).length) (g37.s (v59).toNat 3).c,vB x63,.slice (g37.s (v59).toNat 4).a (((gi y33.2.2 v59).aM.aB.a8).length) (g37.s (v59).toNat 4).c,.slice (g37.s (v59).toNat 5).a (((gi y33.2.2 v59).aM.aQ).length) (g37.s (v59).toNat 5).c,.slice (g37.s (v59).toNat 6).a (((gi y33.2.2 v59).aM.aF).length) (g37.s (v59).toNat 6).c]] [kb 0 0,⟨some (vG [vU ((gi y33.2.2 v59).aM.aj),.slice (g37.s (v59).toNat 1).a (((gi y33.2.2 v59).aM.aC).length) (g37.s (v59).toNat 1).c,.slice (g37.s (v59).toNat 2).a (((gi y33.2.2 v59).aM.bl).length) (g37.s (v59).toNat 2).c,vU ((gi y33.2.2 v59).aM.aB.aj),vS (gi y33.2.2 v59).aM.aB.bA,vI ((gi y33.2.2 v59).aM.aB.Num),vS (gi y33.2.2 v59).aM.aB.az.bA,.slice (g37.s (v59).toNat 3).a (((gi y33.2.2 v59).aM.aB.az.Value).length) (g37.s (v59).toNat 3).c,vB x63,.slice (g37.s (v59).toNat 4).a (((gi y33.2.2 v59).aM.aB.a8).length) (g37.s (v59).toNat 4).c,.slice (g37.s (v59).toNat 5).a (((gi y33.2.2 v59).aM.aQ).length) (g37.s (v59).toNat 5).c,.slice (g37.s (v59).toNat 6).a (((gi y33.2.2 v59).aM.aF).length) (g37.s (v59).toNat 6).c]),rN b66 2 [vU ((gi y33.2.2 v59).aM.aj),.slice (g37.s (v59).toNat 1).a (((gi y33.2.2 v59).aM.aC).length) (g37.s (v59).toNat 1).c,.slice (g37.s (v59).toNat 2).a (((gi y33.2.2 v59).aM.bl).length) (g37.s (v59).toNat 2).c,vU ((gi y33.2.2 v59).aM.aB.aj),vS (gi y33.2.2 v59).aM.aB.bA,vI ((gi y33.2.2 v59).aM.aB.Num),vS (gi y33.2.2 v59).aM.aB.az.bA,.slice (g37.s (v59).toNat 3).a (((gi y33.2.2 v59).aM.aB.az.Value).length) (g37.s (v59).toNat 3).c,vB x63,.slice (g37.s (v59).toNat 4).a (((gi y33.2.2 v59).aM.aB.a8).length) (g37.s (v59).toNat 4).c,.slice (g37.s (v59).toNat 5).a (((gi y33.2.2 v59).aM.aQ).length) (g37.s (v59).toNat 5).c,.slice (g37.s (v59).toNat 6).a (((gi y33.2.2 v59).aM.aF).length) (g37.s (v59).toNat 6).c],fun _ hS => ((hS.bk 0 rfl).atD rfl)⟩] ?_
      intro _ _ H82 hS
      replace hS:=hS.addIm (mh ((hS.im 2 rfl).el ho62))
      replace hS:=hS.addIm (mo ((hS.im 3 rfl).el ho62))
      replace hS:=hS.addIm (mC ((hS.im 4 rfl).el ho62))
      replace hS:=hS.addIm (mE ((hS.im 5 rfl).el ho62))
      replace hS:=hS.addIm (mu ((hS.im 6 rfl).el ho62))
      replace hS:=hS.addIm (mI ((hS.im 7 rfl).el ho62))
      refine t_in H82 hS ?_
      refine t_m [5,4,3,2,1,0] [0,1,2,3,4,5,6,7,8,9,10,11,12,13] [0,3,8,10,34,35,36,49] [.slice aa.a l_.length aa.c,vP b1,vU v27,.slice g49.a y48.length g49.c,.slice g37.a y33.2.2.length g37.c,vI (ln y33.2.2),vI v59,.slice g58.a v57.length g58.c] (fun _ _ H82 hd => o_li (T:=bI) (E:=58) (zv:=vG [vI 0,vI 0,vI 0,vU 0,vO,vO,vU 0,vN,vI 0,vN,vO,vF,vO,vO,vO]) [vI ((gi y33.2.2 v59).ba),vI z73,vI 0,vU ((gi y33.2.2 v59).aM.aj),.slice (g37.s (v59).toNat 1).a (((gi y33.2.2 v59).aM.aC).length) (g37.s (v59).toNat 1).c,.slice (g37.s (v59).toNat 2).a (((gi y33.2.2 v59).aM.bl).length) (g37.s (v59).toNat 2).c,vU ((gi y33.2.2 v59).aM.aB.aj),vS (gi y33.2.2 v59).aM.aB.bA,vI ((gi y33.2.2 v59).aM.aB.Num),vS (gi y33.2.2 v59).aM.aB.az.bA,.slice (g37.s (v59).toNat 3).a (((gi y33.2.2 v59).aM.aB.az.Value).length) (g37.s (v59).toNat 3).c,vB x63,.slice (g37.s (v59).toNat 4).a (((gi y33.2.2 v59).aM.aB.a8).length) (g37.s (v59).toNat 4).c,.slice (g37.s (v59).toNat 5).a (((gi y33.2.2 v59).aM.aQ).length) (g37.s (v59).toNat 5).c,.slice (g37.s (v59).toNat 6).a (((gi y33.2.2 v59).aM.aF).length) (g37.s (v59).toNat 6).c] ([(bR.mk ((gi y33.2.2 v59).ba) z73 0 (aS.mk ((gi y33.2.2 v59).aM.aj) ((gi y33.2.2 v59).aM.aC) ((gi y33.2.2 v59).aM.bl) (ay.mk ((gi y33.2.2 v59).aM.aB.aj) ((gi y33.2.2 v59).aM.aB.bA) ((gi y33.2.2 v59).aM.aB.Num) (bD.mk ((gi y33.2.2 v59).aM.aB.az.bA) ((gi y33.2.2 v59).aM.aB.az.Value) x63) ((gi y33.2.2 v59).aM.aB.a8)) ((gi y33.2.2 v59).aM.aQ) ((gi y33.2.2 v59).aM.aF)))] : List bR) [gL [(g37.s (v59).toNat 1),(g37.s (v59).toNat 2),(g37.s (v59).toNat 3),(g37.s (v59).toNat 4),(g37.s (v59).toNat 5),(g37.s (v59).toNat 6)]] H82 hd rfl (InnL.cons (oV (hd.im 0 rfl) (hd.im 1 rfl) (hd.im 2 rfl) (hd.im 3 rfl) (hd.im 4 rfl) (hd.im 5 rfl)) InnL.nil)) fun g83 => ?_
      obtain ⟨ho93,hm⟩:=chkE hm
      obtain ⟨q94,hq94,hm⟩:=letE hm
      refine t_m [10,0] [1,2,3,4,5,6,7,8,9,11,12,13,14] [0,3,8,10,34,35,36] [.slice aa.a l_.length aa.c,vP b1,vU v27,.slice g49.a y48.length g49.c,.slice g37.a y33.2.2.length g37.c,vI (ln y33.2.2),vI v59] (fun _ _ H92 hd => o_app2 (T:=bI) (zv:=vG [vI 0,vI 0,vI 0,vU 0,vO,vO,vU 0,vN,vI 0,vN,vO,vF,vO,vO,vO]) (g1:=g58) (g2:=g83) (l1:=v57) (l2:=([(bR.mk ((gi y33.2.2 v59).ba) z73 0 (aS.mk ((gi y33.2.2 v59).aM.aj) ((gi y33.2.2 v59).aM.aC) ((gi y33.2.2 v59).aM.bl) (ay.mk ((gi y33.2.2 v59).aM.aB.aj) ((gi y33.2.2 v59).aM.aB.bA) ((gi y33.2.2 v59).aM.aB.Num) (bD.mk ((gi y33.2.2 v59).aM.aB.az.bA) ((gi y33.2.2 v59).aM.aB.az.Value) x63) ((gi y33.2.2 v59).aM.aB.a8)) ((gi y33.2.2 v59).aM.aQ) ((gi y33.2.2 v59).aM.aF)))] : List bR)) q94 hq94.symm H92 hd rfl rfl rfl rfl rfl rfl rfl (by kernel_rfl) (by kernel_rfl) rfl rfl ho93) fun g97 => ?_
      refine t_b 10 [0,3,7,8,10,34,35,36] [.slice aa.a l_.length aa.c,vP b1,.slice g97.a q94.length g97.c,vU v27,.slice g49.a y48.length g49.c,.slice g37.a y33.2.2.length g37.c,vI (ln y33.2.2),vI v59] [] (t_end (t_sel [0,9,10,11,12,13,14] ?_))
      refine t_w [0,3,7,8,10,34,35,36] [.slice aa.a l_.length aa.c,vP b1,.slice g97.a q94.length g97.c,vU v27,.slice g49.a y48.length g49.c,.slice g37.a y33.2.2.length g37.c,vI (ln y33.2.2),vI (w64 (v59 + 1))] [] (t_sel [1,2,0,3,4,5,6] ?_)
      exact fun _ _ H101 hS => ⟨_,Nat.lt_succ_self _,q94,w64 (v59 + 1),g97,hm,FrG.keep (ks:=[0,3,8,10,34,35,7,36]) H101 (by kernel_rfl),hS⟩
   ·intro vD
    refine t_w [0,3,7,8] [.slice aa.a l_.length aa.c,vP b1,.slice vD.a z30.length vD.c,vU (wu8 (v27 + 1))] [] ?_
    exact fun _ _ H107 hS => ⟨_,Nat.lt_succ_self _,z30,wu8 (v27 + 1),vD,hm,FrG.keep (ks:=[0,3,7,8]) H107 (by kernel_rfl),hS⟩
 ·intro nb
  refine t_sel [0,3,4] (t_starts ?_)
  refine t_b 1 [7,59] [.slice nb.a z21.length nb.c,.slice nb.a z21.length nb.c] [] ?_
  obtain ⟨oC,hy115,hm⟩:=bindE hm
  intro _ _ H114 hS
  have hd:=hS.hand [0] [1,2] rfl rfl
  refine m_stp [60,7] [(7,[],.slice nb.a z21.length nb.c)] H114 rfl rfl rfl rfl (o_callx H114 rfl rfl (gk (dG:=nb) m _ _ hy115 _ _ hd)) (fun _ => rfl) fun _ _ v H118 hq => ?_
  obtain ⟨nD,rfl,hb119,hq⟩:=hq
  first | (unfold vL at H118; rw [← hb119.1,← hb119.2.1,← hb119.2.2] at H118) | rw [← hb119.1,← hb119.2.1,← hb119.2.2] at H118 | skip
  first | (unfold vL at hS; rw [← hb119.1,← hb119.2.1,← hb119.2.2] at hS) | rw [← hb119.1,← hb119.2.1,← hb119.2.2] at hS | skip
  replace hS:=hS.join [0] [1,2] rfl rfl hq
  refine t_in H118 hS (t_end ?_)
  obtain ⟨wm,hz,hm⟩:=bindE hm
  refine t_cutg [7] (fun (vz : Gh) => [.slice vz.a wm.length vz.c]) (fun vz => [eO 58 bI wm vz,gE4,Ent.tab 0 (Lib.pow10Tab.map fun z => Value.int .u64 z)]) ?_ ?_
  ·replace hm:=hz
   refine t_r [7,62,63] [.slice nD.a oC.length nD.c,vI (ln oC),vI 0] [] (t_block ?_)
   intro _ _ H122 hS
   refine w_loop (fun kk a' w' => ∃ (kX : List bR) (fo : Int) (gY : Gh),jC m oC kk kX fo = some _ ∧ Fr 73 (fS [62,7,63] [vI (ln oC),.slice gY.a kX.length gY.c,vI fo]) a' ∧ SH M X w [eO 58 bI kX gY,gE4,Ent.tab 0 (Lib.pow10Tab.map fun z => Value.int .u64 z)] w') ⟨_,oC,0,nD,hm,FrG.keep (ks:=[62,7,63]) H122 (by kernel_rfl),hS⟩ ?_
   clear hm H122 hS
   rintro kk _ _ ⟨kX,fo,gY,hm,H,hS⟩
   cases kk with
   | zero => exact noneE hm
   | succ kk =>
    rw [jC] at hm
    refine t_in H hS ?_
    refine t_r [7,62,63,64] [.slice gY.a kX.length gY.c,vI (ln oC),vI fo,vB (decide (fo < (ln oC)))] [] (t_seq ?_)
    refine t_im hm (fun hm => ?_) (fun hm => ?c139)
    case c139 =>
     refine t_exit ?_
     obtain rfl:=someE hm
     exact t_eg gY [7]
    refine t_skip (t_seq (t_block ?_))
    refine t_r [7,14,62,63] [.slice gY.a kX.length gY.c,vI fo,vI (ln oC),vI fo] [] (t_start ?_)
    obtain ⟨ho130,hm⟩:=chkE hm
    refine t_b 5 [7,62,63,68,70] [.slice gY.a kX.length gY.c,vI (ln oC),vI fo,vI fo,.pointer (some ⟨ab gY.a,ao gY.a + (fo).toNat * 15 + 2,none⟩)] [kI 0 ho130] ?_
    intro _ _ H132 hS
    have hd:=hS.hand [0] [1,2] rfl rfl
    refine m_stp0 [7,62,63] (fS [7,62,63] [.slice gY.a kX.length gY.c,vI (ln oC),vI fo]) H132 rfl rfl rfl (o_estore (T:=bI) (g:=gY) (q:=kX) (ix:=fo) (off:=2) (bR.mk ((gi kX fo).lS) ((gi kX fo).pd) fo ((gi kX fo).aV)) (gL [(gY.s (fo).toNat 0),(gY.s (fo).toNat 1),(gY.s (fo).toNat 2),(gY.s (fo).toNat 3),(gY.s (fo).toNat 4),(gY.s (fo).toNat 5)]) H132 hd rfl rfl rfl rfl (by kernel_rfl) rfl rfl ho130 rfl (oV (ne (x:=(gi kX fo)) (g:=gY.s (fo).toNat) ((hd.ow 0 rfl).el ho130)) (n8 (x:=(gi kX fo)) (g:=gY.s (fo).toNat) ((hd.ow 0 rfl).el ho130)) (nk (x:=(gi kX fo)) (g:=gY.s (fo).toNat) ((hd.ow 0 rfl).el ho130)) (n6 (x:=(gi kX fo)) (g:=gY.s (fo).toNat) ((hd.ow 0 rfl).el ho130)) (na (x:=(gi kX fo)) (g:=gY.s (fo).toNat) ((hd.ow 0 rfl).el ho130)) (nj (x:=(gi kX fo)) (g:=gY.s (fo).toNat) ((hd.ow 0 rfl).el ho130))) rfl) rfl fun _ _ H134 hq => ?_
    obtain ⟨_,hq⟩:=hq
    obtain ⟨s135,hq⟩:=hq
    obtain ⟨q136,hq136,hm⟩:=letE hm
    rw [← hq136] at hq
    have hn : kX.length = q136.length:=by rw [hq136,setl_len]
    first | (unfold vL at H134; rw [hn] at H134) | rw [hn] at H134 | skip
    first | (unfold vL at hS; rw [hn] at hS) | rw [hn] at hS | skip
    clear hn
    replace hS:=hS.join [0] [1,2] rfl rfl hq
    refine t_in H134 hS (t_end ?_)
    refine t_w [7,62,63] [.slice (Gh.mk gY.a gY.c s135).a q136.length (Gh.mk gY.a gY.c s135).c,vI (ln oC),vI (w64 (fo + 1))] [] ?_
    exact fun _ _ H138 hS => ⟨_,Nat.lt_succ_self _,q136,w64 (fo + 1),(Gh.mk gY.a gY.c s135),hm,FrG.keep (ks:=[62,7,63]) H138 (by kernel_rfl),hS⟩
  ·intro vz
   refine t_r [4,5] [.slice vz.a wm.length vz.c,vI 0] [] (t_ret ?_)
   obtain rfl:=someE hm
   exact t_g vz [0] rs2

def iN (m : Nat) (want : List Int) (y5 : (List bR) × Int) : Nat → Int → Option (Unit)
  | 0,_ => none
  | kk + 1,v18 =>
    cond (decide (v18 < (ln y5.1))) (
    chk (0 ≤ v18 ∧ v18 < ln y5.1) <|
    chk (0 ≤ v18 ∧ v18 < ln want) <|
    lt (cond (((gi y5.1 v18).pd) != (gi want v18)) true (((gi y5.1 v18).tZ) != v18)) fun x23 =>
    lt (cond x23 true (((gi y5.1 v18).aV.aj) != 1)) fun x24 =>
    cond x24 (
    none) (
    iN m want y5 kk (w64 (v18 + 1)))) (
    some ())
def fO (m : Nat) (l_ : List bM) (want : List Int) : Option (Bool) :=
  Option.bind (iW m l_ (iu.mk 800)) fun y5 =>
  lt (cond (y5.2 != 0) true ((ln y5.1) != (ln want))) fun x12 =>
  cond x12 (
  none) (
  Option.bind (
  iN m want y5 m 0) fun (z15 : Unit) =>
  some true)
theorem fw {aa : Gh} {bN : Gh} (m : Nat) (l_ : List bM) (want : List Int) (r : Bool) (hm : fO m l_ want = some r) (w : World) (hL : S0 F0 [eI bx l_ aa,eI (tI .i64) want bN,gE4,Ent.tab 0 (Lib.pow10Tab.map fun z => Value.int .u64 z)] w ∧ fpl [eI bx l_ aa,eI (tI .i64) want bN,gE4,Ent.tab 0 (Lib.pow10Tab.map fun z => Value.int .u64 z)] = []) : RetB Tryz.prog 6 ⟨[vL aa l_,vL bN want]⟩ (vB r) w:=by
 rw [fO] at hm
 refine f_read hL (Tryz.call6 _) Tryz.func6 Tryz.ntmps6 fun M X w => ?_
 refine t_r [0,1] [vL aa l_,vL bN want] [] (t_starts ?_)
 refine t_b 2 [1,9,10] [vL bN want,vL aa l_,vG [vI 800]] [] ?_
 obtain ⟨y5,hy5,hm⟩:=bindE hm
 refine t_c [0,2,3] [0,1,2,3] [1] [vL bN want] (jj (aa:=aa) m _ _ _ hy5) fun g6 => ?_
 refine t_b 8 [1,5,6] [vL bN want,vL g6 y5.1,vI y5.2] [] (t_end (t_sel [0,2,3,4] (t_seq ?_)))
 obtain ⟨x12,hx12,hm⟩:=letE hm
 refine t_r [1,5,22] [vL bN want,vL g6 y5.1,vB x12] [] ?_ (he:=by subst hx12; kernel_rfl)
 refine t_i2 hm (fun hm => ?_)
 refine t_skip ?_
 obtain ⟨z15,hz,hm⟩:=bindE hm
 refine t_cut [] [] [eO 58 bI y5.1 g6,eI (tI .i64) want bN,gE4,Ent.tab 0 (Lib.pow10Tab.map fun z => Value.int .u64 z)] ?_ ?_
 ·replace hm:=hz
  refine t_r [1,5,7] [vL bN want,vL g6 y5.1,vI 0] [] (t_block ?_)
  intro _ _ H17 hS
  refine w_loop (fun kk a' w' => ∃ (v18 : Int),iN m want y5 kk v18 = some _ ∧ Fr 57 (fS [1,5,7] [vL bN want,vL g6 y5.1,vI v18]) a' ∧ SH M X w [eO 58 bI y5.1 g6,eI (tI .i64) want bN,gE4,Ent.tab 0 (Lib.pow10Tab.map fun z => Value.int .u64 z)] w') ⟨_,0,hm,FrG.keep (ks:=[1,5,7]) H17 (by kernel_rfl),hS⟩ ?_
  clear hm H17 hS
  rintro kk _ _ ⟨v18,hm,H,hS⟩
  cases kk with
  | zero => exact noneE hm
  | succ kk =>
   rw [iN] at hm
   refine t_in H hS (t_seq ?_)
   refine t_r [1,5,7,26] [vL bN want,vL g6 y5.1,vI v18,vB (decide (v18 < (ln y5.1)))] [] ?_
   refine t_im hm (fun hm => ?_) (fun hm => ?c30)
   case c30 =>
    refine t_exit ?_
    obtain rfl:=someE hm
    exact t_e []
   refine t_skip (t_seq (t_block ?_))
   obtain ⟨ho21,hm⟩:=chkE hm
   obtain ⟨ho22,hm⟩:=chkE hm
   obtain ⟨x23,hx23,hm⟩:=letE hm
   obtain ⟨x24,hx24,hm⟩:=letE hm
   refine t_dr [1,5,7,56] [vL bN want,vL g6 y5.1,vI v18,vB x24] [kI 0 ho21,kJ 0 1 ho21,ki 1 ho22,kj 1 0 ho22,kgI ((((gi y5.1 v18).pd) != (gi want v18)) = false ∧ True) 0 fun hg => ho21,kgJ ((((gi y5.1 v18).pd) != (gi want v18)) = false ∧ True) 0 2 fun hg => ho21,kgI (x23 = false ∧ True) 0 fun hg => ho21,kgJ (x23 = false ∧ True) 0 3 fun hg => ho21] ?_ (he:=by subst hx23 hx24; kernel_rfl)
   refine t_i2 hm (fun hm => ?_)
   refine t_skip ?_
   refine t_w [1,5,7] [vL bN want,vL g6 y5.1,vI (w64 (v18 + 1))] [] ?_
   exact fun _ _ H28 hS => ⟨_,Nat.lt_succ_self _,w64 (v18 + 1),hm,FrG.keep (ks:=[1,5,7]) H28 (by kernel_rfl),hS⟩
 ·refine t_sel [2,3] ?_
  refine t_r [4] [vT] [] (t_ret ?_)
  obtain rfl:=someE hm
  exact t_n [] rs1

def l9 (m : Nat) (r_ : aS) : Option (Int) :=
  Option.bind (mz m ([r_] : List aS)) fun y12 =>
  some y12
theorem px {ez : Gh} {er : Gh} {dv : Gh} {dw : Gh} {ew : Gh} {eE : Gh} (m : Nat) (r_ : aS) (r : Int) (hm : l9 m r_ = some r) (w : World) (hL : S0 F0 [eI au r_.aC ez,eI bf r_.bl er,eI a6 r_.aB.az.Value dv,eI ak r_.aB.a8 dw,eI (Ty.sl tS) r_.aQ ew,eI aJ r_.aF eE] w ∧ fpl [eI au r_.aC ez,eI bf r_.bl er,eI a6 r_.aB.az.Value dv,eI ak r_.aB.a8 dw,eI (Ty.sl tS) r_.aQ ew,eI aJ r_.aF eE] = []) : RetB Tryz.prog 22 ⟨[.agg ⟨e5 r_ (gL [ez,er,dv,dw,ew,eE])⟩]⟩ (vI r) w:=by
 rw [l9] at hm
 refine f_read hL (Tryz.call22 _) Tryz.func22 Tryz.ntmps22 fun M X w => (t_starts ?_)
 refine t_m [] [0,1,2,3,4,5] [] [] (fun _ _ H hd => o_box (e5 r_ (gL [ez,er,dv,dw,ew,eE])) H hd rfl rfl) fun b1 => ?_
 refine t_b 2 [1] [vP b1] [] (t_end (t_starts ?_))
 refine t_b 1 [3] [.agg ⟨e5 r_ (gL [ez,er,dv,dw,ew,eE])⟩] [kE 0 12] ?_
 refine t_m [1,2,3,4,5,6] [0,1,2,3,4,5,6] [] [] (fun _ _ H7 hd => o_li (T:=aJ) (E:=42) (zv:=vG [vU 0,vO,vO,vU 0,vN,vI 0,vN,vO,vF,vO,vO,vO]) (e5 r_ (gL [ez,er,dv,dw,ew,eE])) ([r_] : List aS) [gL [ez,er,dv,dw,ew,eE]] H7 hd rfl (InnL.cons (rh (hd.im 0 rfl) (hd.im 1 rfl) (hd.im 2 rfl) (hd.im 3 rfl) (hd.im 4 rfl) (hd.im 5 rfl)) InnL.nil)) fun g8 => ?_
 obtain ⟨y12,hy12,hm⟩:=bindE hm
 refine t_b 4 [2] [vI y12] [kr fun _ hS => oE (aa:=g8) m _ _ hy12 _ (s0im s0nil (hS.osl 0 rfl))] (t_end (t_sel [] (t_ret ?_)))
 obtain rfl:=someE hm
 exact t_n [] rs1

def jl (m : Nat) (r_ : aS) (e_ : iu) : Option (Bool × Int) :=
  Option.bind (l9 m r_) fun y9 =>
  cond (y9 != 0) (
  some (false,8)) (
  cond (!(fM e_)) (
  some (false,2)) (
  Option.bind (lA m r_ e_) fun y20 =>
  some (y20,0)))
theorem l6 {ez : Gh} {er : Gh} {dv : Gh} {dw : Gh} {ew : Gh} {eE : Gh} (m : Nat) (r_ : aS) (e_ : iu) (r : Bool × Int) (hm : jl m r_ e_ = some r) (w : World) (hL : S0 F0 [eI au r_.aC ez,eI bf r_.bl er,eI a6 r_.aB.az.Value dv,eI ak r_.aB.a8 dw,eI (Ty.sl tS) r_.aQ ew,eI aJ r_.aF eE,gE4] w ∧ fpl [eI au r_.aC ez,eI bf r_.bl er,eI a6 r_.aB.az.Value dv,eI ak r_.aB.a8 dw,eI (Ty.sl tS) r_.aQ ew,eI aJ r_.aF eE,gE4] = []) : RetB Tryz.prog 10 ⟨[.agg ⟨e5 r_ (gL [ez,er,dv,dw,ew,eE])⟩,vG [vI e_.ct]]⟩ (vW [vB r.1,vI r.2]) w:=by
 rw [jl] at hm
 refine f_read hL (Tryz.call10 _) Tryz.func10 Tryz.ntmps10 fun M X w => (t_starts ?_)
 refine t_m [] [0,1,2,3,4,5,6] [1] [vG [vI e_.ct]] (fun _ _ H hd => o_box (e5 r_ (gL [ez,er,dv,dw,ew,eE])) H hd rfl rfl) fun b1 => ?_
 refine t_m [] [0,1,2,3,4,5,6,7] [2] [vP b1] (fun _ _ H3 hd => o_box [vI e_.ct] H3 hd rfl rfl) fun b4 => ?_
 refine t_b 4 [2,3] [vP b1,vP b4] [] (t_end (t_seq ?_))
 obtain ⟨y9,hy9,hm⟩:=bindE hm
 refine t_r [2,3,6] [vP b1,vP b4,vI y9] [kE 1 12,kr fun _ hS => px (ez:=ez) (er:=er) (dv:=dv) (dw:=dw) (ew:=ew) (eE:=eE) m _ _ hy9 _ (s0im (s0im (s0im (s0im (s0im (s0im s0nil (hS.im 7 rfl)) (hS.im 6 rfl)) (hS.im 5 rfl)) (hS.im 4 rfl)) (hS.im 3 rfl)) (hS.im 2 rfl))] ?_
 refine t_r [2,3,10] [vP b1,vP b4,vB (y9 != 0)] [] ?_
 refine t_im hm (fun hm => ?c24) (fun hm => ?_)
 case c24 =>
  refine t_r [4,5] [vF,vI 8] [] (t_sel [8] (t_ret ?_))
  obtain rfl:=someE hm
  exact t_n [] rs2
 refine t_skip (t_seq ?_)
 refine t_r [2,3,13] [vP b1,vP b4,vB (!(fM e_))] [kE 0 1,kc (l7 e_)] ?_
 refine t_im hm (fun hm => ?c23) (fun hm => ?_)
 case c23 =>
  refine t_r [4,5] [vF,vI 2] [] (t_sel [8] (t_ret ?_))
  obtain rfl:=someE hm
  exact t_n [] rs2
 refine t_skip ?_
 obtain ⟨y20,hy20,hm⟩:=bindE hm
 refine t_r [4,5] [vB y20,vI 0] [kE 1 12,kE 0 1,kr fun _ hS => nS (ez:=ez) (er:=er) (dv:=dv) (dw:=dw) (ew:=ew) (eE:=eE) m _ _ _ hy20 _ (s0im (s0im (s0im (s0im (s0im (s0im (s0im s0nil (hS.im 8 rfl)) (hS.im 7 rfl)) (hS.im 6 rfl)) (hS.im 5 rfl)) (hS.im 4 rfl)) (hS.im 3 rfl)) (hS.im 2 rfl))] (t_sel [8] (t_ret ?_))
 obtain rfl:=someE hm
 exact t_n [] rs2

def o8 (m : Nat)  : Option (Bool) :=
  Option.bind (cR m [64,108,97,121,101,114,32,98,44,32,97,59,32,64,108,97,121,101,114,32,97,32,123,32,112,32,123,125,32,64,108,97,121,101,114,32,120,32,123,32,113,32,123,125,32,125,32,125,32,114,32,123,125]) fun y3 =>
  Option.bind (cR m [64,109,101,100,105,97,32,112,114,105,110,116,32,123,32,64,108,97,121,101,114,32,122,59,32,112,32,123,125,32,125]) fun y10 =>
  Option.bind (
  Option.bind (eP m y3 kL9) fun y24 =>
  lt (y24) fun x25 =>
  cond x25 (
  Option.bind (fO m y3 ([2,1,3] : List Int)) fun y34 =>
  Option.bind (cond y34 (eP m y10 []) (some default)) fun y35 =>
  Option.bind (cond (cond y34 y35 false) (fO m y10 []) (some default)) fun y36 =>
  some (cond (cond y34 y35 false) y36 false)) (
  some false)) fun (z17 : Bool) =>
  some z17
theorem sJ  (m : Nat)  (r : Bool) (hm : o8 m = some r) (w : World) (hL : S0 F0 [gE4,Ent.tab 0 (Lib.pow10Tab.map fun z => Value.int .u64 z)] w ∧ fpl [gE4,Ent.tab 0 (Lib.pow10Tab.map fun z => Value.int .u64 z)] = []) : RetB Tryz.prog 11 ⟨[]⟩ (vB r) w:=by
 rw [o8] at hm
 refine f_read hL (Tryz.call11 _) Tryz.func11 Tryz.ntmps11 fun M X w => ?_
 refine t_r [] [] [] (t_starts ?_)
 obtain ⟨y3,hy3,hm⟩:=bindE hm
 refine t_c [] [0,1] [] [] (dh m _ _ hy3) fun g4 => ?_
 refine t_b 2 [1] [vL g4 y3] [] (t_end (t_starts ?_))
 obtain ⟨y10,hy10,hm⟩:=bindE hm
 refine t_c [] [0,1,2] [1] [vL g4 y3] (dh m _ _ hy10) fun g11 => ?_
 refine t_b 2 [1,2] [vL g4 y3,vL g11 y10] [] (t_end ?_)
 obtain ⟨z17,hz,hm⟩:=bindE hm
 refine t_cut [0] [vB z17] [eO 30 bx y10 g11,eO 30 bx y3 g4,gE4,Ent.tab 0 (Lib.pow10Tab.map fun z => Value.int .u64 z)] ?_ ?_
 ·replace hm:=hz
  refine t_start ?_
  refine t_b 1 [1,2,5] [vL g4 y3,vL g11 y10,vL g4 y3] [] ?_
  refine t_m [] [0,1,2,3] [1,2,5] [vL g4 y3,vL g11 y10,vL g4 y3] (fun _ _ H19 hd => o_li (T:=tS) (E:=9) (zv:=vN) [vS [98],vS [97,47,120],vS [97]] kL9 [gL [],gL [],gL []] H19 hd rfl (InnL.cons trivial (InnL.cons trivial (InnL.cons trivial InnL.nil)))) fun g20 => ?_
  obtain ⟨y24,hy24,hm⟩:=bindE hm
  obtain ⟨x25,hx25,hm⟩:=letE hm
  refine t_b 4 [1,2,8] [vL g4 y3,vL g11 y10,vB x25] [kr fun _ hS => eF (aa:=g4) (bN:=g20) m _ _ _ hy24 _ (s0im (s0im (s0im (s0tab s0nil (hS.at 4 rfl)) (hS.im 3 rfl)) (hS.osl 0 rfl)) (hS.osl 2 rfl))] ?_ (he:=by subst hx25; kernel_rfl)
  cases x25
  case true =>
   replace hm:=bT rfl hm
   intro _ _ H27 hS
   refine wl_batchM 4 5 [] [(2,0),(8,0),(9,1)] (fS [2,8,9] [vL g11 y10,vT,vL g4 y3]) [] H27 (by decide) (by kernel_rfl) trivial fun _ _ H29 hb => ?_
   replace hS:=hS.below hb
   have hd:=hS.hand [] [0,1,2,3,4] rfl rfl
   refine m_stpG 8 [10,2,8,9] (fS [2,8,9] [vL g11 y10,vT,vL g4 y3]) H29 rfl rfl rfl rfl (o_li (T:=(tI .i64)) (E:=3) (zv:=vI 0) [vI 2,vI 1,vI 3] ([2,1,3] : List Int) [gL [],gL [],gL []] H29 hd rfl (InnL.cons trivial (InnL.cons trivial (InnL.cons trivial InnL.nil)))) (fun _ => rfl) fun _ _ v H33 hq => ?_
   obtain ⟨g30,rfl,hq⟩:=hq
   replace hS:=hS.join [] [0,1,2,3,4] rfl rfl hq
   obtain ⟨y34,hy34,hm⟩:=bindE hm
   obtain ⟨y35,hy35,hm⟩:=bindE hm
   obtain ⟨y36,hy36,hm⟩:=bindE hm
   refine t_in H33 hS ?_
   refine t_b 17 [0] [vB (cond (cond y34 y35 false) y36 false)] [kgr (true = true ∧ True) fun _ hS hg => fw (aa:=g4) (bN:=g30) m _ _ _ hy34 _ (s0im (s0im (s0im (s0tab s0nil (hS.at 5 rfl)) (hS.im 4 rfl)) (hS.osl 0 rfl)) (hS.osl 3 rfl)),kgr (y34 = true ∧ True) fun _ hS hg => eF (aa:=g11) (bN:=Gh.nil) m _ _ _ (bT (hg.1) hy35) _ (s0im (s0im (s0im (s0tab s0nil (hS.at 5 rfl)) (hS.im 4 rfl)) (SlG.nil (M:=F0) (g:=Gh.nil))) (hS.osl 2 rfl)),kgr ((cond y34 y35 false) = true ∧ True) fun _ hS hg => fw (aa:=g11) (bN:=Gh.nil) m _ _ _ (bT (hg.1) hy36) _ (s0im (s0im (s0im (s0tab s0nil (hS.at 5 rfl)) (hS.im 4 rfl)) (SlG.nil (M:=F0) (g:=Gh.nil))) (hS.osl 2 rfl))] (t_end (t_sel [2,3,4,5] ?_))
   obtain rfl:=someE hm
   exact t_e [0]
  replace hm:=bF rfl hm
  intro _ _ H27 hS
  refine m_skipG 8 [9,2,8] (fS [9,2,8] [undef,vL g11 y10,vF]) H27 rfl rfl rfl rfl rfl rfl fun _ H39 => ?_
  refine m_skipG 8 [10,2,8,9] (fS [10,2,8,9] [undef,vL g11 y10,vF,undef]) H39 rfl rfl rfl rfl rfl rfl fun _ H40 => ?_
  refine m_skipG 8 [11,2,8] (fS [11,2,8] [undef,vL g11 y10,vF]) H40 rfl rfl rfl rfl rfl rfl fun _ H41 => ?_
  refine t_in H41 hS ?_
  refine t_b 9 [2,13] [vL g11 y10,vF] [] ?_
  intro _ _ H43 hS
  refine m_skipG 13 [14,2,13] (fS [14,2,13] [undef,vL g11 y10,vF]) H43 rfl rfl rfl rfl rfl rfl fun _ H44 => ?_
  refine m_skipG 13 [15,2,13] (fS [15,2,13] [undef,vL g11 y10,vF]) H44 rfl rfl rfl rfl rfl rfl fun _ H45 => ?_
  refine t_in H45 hS ?_
  refine t_b 13 [2,17] [vL g11 y10,vF] [] ?_
  intro _ _ H47 hS
  refine m_skipG 17 [18,17] (fS [18,17] [undef,vF]) H47 rfl rfl rfl rfl rfl rfl fun _ H48 => ?_
  refine m_skipG 17 [19,17] (fS [19,17] [undef,vF]) H48 rfl rfl rfl rfl rfl rfl fun _ H49 => ?_
  refine t_in H49 hS ?_
  refine t_b 17 [0] [vF] [] (t_end (t_sel [1,2,3,4] ?_))
  obtain rfl:=someE hm
  exact t_e [0]
 ·refine t_sel [2,3] (t_ret ?_)
  obtain rfl:=someE hm
  exact t_n [] rs1

def ug : Ty (bM × Gh):=.flat 2 (fun p => [vU p.1.ed,.slice p.2.a p.1.bj.aF.length p.2.c]) (fun _ => rfl) (fun _ => rfl)
theorem wJ {M : Av} {X : List Nat} {w0 w : World} {L : List Ent} {x : bM} {rs : List aS} {g g1 g2 : Gh} (hl : rs.length = x.bj.aF.length) (ha : g2.a = g.a) (hc : g2.c = g.c) (h : SH M X w0 (.im aJ rs g2 :: .own 30 ug [(x,g)] g1 :: L) w) : SH M X w0 (.own 30 bx [bM.mk x.ed (hZ.mk rs)] (.mk g1.a g1.c fun _ _ => g2) :: L) w:=by
 have hi:=h.im 0 rfl
 have h1 : SH M X w0 (.own 30 ug [(x,g)] g1 :: .im aJ rs g2 :: L) w:=h.perm (List.Perm.swap _ _ _)
 have ho:=h1.ow 0 rfl
 have hn:=h1.nd
 rw [List.pairwise_cons,List.pairwise_cons] at hn
 refine ⟨h1.kp,List.pairwise_cons.2 ⟨fun f hf => hn.1 f (List.mem_cons_of_mem _ hf),hn.2.2⟩,fun b hb => h1.lo b hb,fun b hb => h1.nm b hb,h1.mx,fun e he => ?_⟩
 rcases List.mem_cons.1 he with rfl | he
 ·refine ⟨⟨?_,ho.ow.lt,ho.ow.ln⟩,fun i hi2 => ?_⟩
  ·have hr:=ho.ow.row
   show w.ownsRow 0 30 2 (Value.slice g1.a 1 g1.c) 1 [vU x.ed,Value.slice g2.a rs.length g2.c]
   rw [ha,hc,hl]
   exact hr
  ·obtain rfl : i = 0:=by simp at hi2; omega
   exact ge hi
 ·exact h1.ps e (List.mem_cons_of_mem _ (List.mem_cons_of_mem _ he))
theorem rp (m : Nat) (s : Str) (r : List bM) (hm : cR m s = some r) : ∃ x,r = [x] ∧ DoesM Tryz.prog 5 ⟨[vS s]⟩ [] (fun (p : Gh × Gh) => .slice p.1.a 1 p.1.c) (fun p => [eO 30 ug [(x,p.2)] p.1,eO 42 aJ x.bj.aF p.2]):=by
 rw [cR] at hm
 obtain ⟨y5,hy5,hm⟩:=bindE hm
 refine ⟨y5,(someE hm).symm,?_⟩
 refine f_mem (Tryz.call5 _) Tryz.func5 Tryz.ntmps5 fun M X w => ?_
 refine t_r [0] [vS s] [] (t_starts ?_)
 refine t_b 1 [3] [vS s] [] ?_
 refine t_c [] [] [] [] (ni m _ _ _ hy5) fun g6 => ?_
 refine t_m [] [0] [] [] (fun _ _ H9 hd => o_li (T:=ug) (E:=30) (zv:=vG [vU 0,vO]) [vU y5.ed,vL g6 y5.bj.aF] ([(y5,g6)] : List (bM × Gh)) [gL []] H9 hd rfl (InnL.cons trivial InnL.nil)) fun g10 => ?_
 refine t_b 4 [2] [vK g10 1] [] (t_end (t_ret ?_))
 exact t_g (g10,g6) [0,1] rs1
theorem wL {M : Av} {w : World} {x : aS} {g : Nat → Gh} (h : aJ.inn M w x g) : aJ.inn M w (aS.mk 9 x.aC x.bl x.aB x.aQ x.aF) g:=by
 have k0:=jW h
 have k1:=ng h
 have k2:=fA h
 have k3:=fx h
 have k4:=fC h
 have k5:=jV h
 exact rh k0 k1 k2 k3 k4 k5
def law28_LayersNames (m : Nat)  : Option (Bool) :=
  Option.bind (
  Option.bind (cR m [64,108,97,121,101,114,32,97,46,98,46,99,59,32,64,108,97,121,101,114,32,97,46,100,44,32,101,59,32,64,108,97,121,101,114,32,97,46,98,32,123,32,125]) fun y4 =>
  Option.bind (eP m y4 wQ) fun y13 =>
  lt (y13) fun x14 =>
  cond x14 (
  Option.bind (cR m [64,108,97,121,101,114,32,123,32,64,108,97,121,101,114,32,120,59,32,125,32,64,108,97,121,101,114,32,123,32,125,32,64,108,97,121,101,114,32,121,32,123,32,64,108,97,121,101,114,59,32,64,108,97,121,101,114,32,123,32,125,32,125]) fun y17 =>
  Option.bind (eP m y17 wN) fun y26 =>
  lt (y26) fun x27 =>
  cond x27 (
  Option.bind (cR m [112,32,123,125,32,64,108,97,121,101,114,32,122,32,123,32,64,108,97,121,101,114,32,120,46,121,32,123,32,113,32,123,125,32,125,32,64,108,97,121,101,114,32,119,59,32,125,32,64,108,97,121,101,114,32,120,59]) fun y30 =>
  Option.bind (eP m y30 wO) fun y39 =>
  some y39) (
  some false)) (
  some false)) fun (z3 : Bool) =>
  Option.bind (
  Option.bind (cR m [64,109,101,100,105,97,32,40,109,105,110,45,119,105,100,116,104,58,32,56,48,48,112,120,41,32,123,32,64,108,97,121,101,114,32,97,59,32,125,32,64,109,101,100,105,97,32,40,109,105,110,45,119,105,100,116,104,58,32,56,48,49,112,120,41,32,123,32,64,108,97,121,101,114,32,98,59,32,125,32,64,109,101,100,105,97,32,110,111,116,32,112,114,105,110,116,32,123,32,64,108,97,121,101,114,32,99,32,123,32,64,109,101,100,105,97,32,115,99,114,101,101,110,32,97,110,100,32,40,109,97,120,45,119,105,100,116,104,58,32,49,112,120,41,32,123,32,64,108,97,121,101,114,32,100,59,32,125,32,125,32,125]) fun y58 =>
  Option.bind (eP m y58 kL5) fun y67 =>
  lt (y67) fun x68 =>
  cond x68 (
  Option.bind (cR m [64,115,117,112,112,111,114,116,115,32,40,99,111,108,111,114,58,32,114,101,100,41,32,123,32,64,108,97,121,101,114,32,97,59,32,125,32,64,115,117,112,112,111,114,116,115,32,40,99,111,108,111,114,58,32,49,112,120,41,32,123,32,64,108,97,121,101,114,32,98,59,32,125,32,64,115,117,112,112,111,114,116,115,32,40,45,45,120,58,32,121,41,32,97,110,100,32,40,110,111,116,32,40,109,97,114,103,105,110,58,32,114,101,100,41,41,32,123,32,64,108,97,121,101,114,32,99,59,32,125,32,64,115,117,112,112,111,114,116,115,32,115,101,108,101,99,116,111,114,40,97,41,32,123,32,64,108,97,121,101,114,32,100,59,32,125]) fun y71 =>
  Option.bind (eP m y71 kL5) fun y80 =>
  some y80) (
  some false)) fun (z57 : Bool) =>
  Option.bind (
  Option.bind (cR m [64,108,97,121,101,114,32,97,32,123,32,112,32,123,125,32,125,32,113,32,123,125,32,64,108,97,121,101,114,32,98,32,123,32,114,32,123,125,32,64,108,97,121,101,114,32,123,32,115,32,123,125,32,125,32,116,32,123,125,32,125,32,64,108,97,121,101,114,32,97,32,123,32,117,32,123,125,32,125]) fun y89 =>
  Option.bind (fO m y89 ([0,3,2,1,2,0] : List Int)) fun y98 =>
  Option.bind (cond y98 (fO m [] []) (some default)) fun y99 =>
  lt (cond y98 y99 false) fun x100 =>
  cond x100 (
  Option.bind (cR m [64,109,101,100,105,97,32,112,114,105,110,116,32,123,32,112,32,123,125,32,125,32,113,32,123,125]) fun y103 =>
  Option.bind (fO m y103 ([0] : List Int)) fun y112 =>
  some y112) (
  some false)) fun (z88 : Bool) =>
  Option.bind (rk m 1 [64,108,97,121,101,114,32,120,59,32,112,32,123,125]) fun y120 =>
  Option.bind (rk m 3 [64,108,97,121,101,114,32,121,32,123,32,113,32,123,125,32,125]) fun y125 =>
  Option.bind (rk m 1 [64,108,97,121,101,114,32,122,32,123,32,114,32,123,125,32,125]) fun y130 =>
  Option.bind (
  Option.bind (fO m ([y120,y125,y130] : List bM) ([2,0,1] : List Int)) fun y148 =>
  lt (y148) fun x149 =>
  cond x149 (
  Option.bind (eP m ([y120,y125,y130] : List bM) ([[121]] : List Str)) fun y158 =>
  some y158) (
  some false)) fun (z141 : Bool) =>
  Option.bind (cR m [112,32,123,125]) fun y166 =>
  chk (0 ≤ (0 : Int) ∧ (0 : Int) < ln y166) <|
  lt (setl y166 (0 : Int) (bM.mk 4 ((gi y166 (0 : Int)).bj))) fun q179 =>
  Option.bind (cR m [112,32,123,125]) fun y180 =>
  chk (0 ≤ (0 : Int) ∧ (0 : Int) < ln y180) <|
  lt ((ln ((gi y180 (0 : Int)).bj.aF)) != 1) fun x188 =>
  cond x188 (
  none) (
  chk (0 ≤ (0 : Int) ∧ (0 : Int) < ln (gi y180 (0 : Int)).bj.aF) <|
  lt ([bM.mk (gi y180 (0 : Int)).ed (hZ.mk (setl (gi y180 (0 : Int)).bj.aF 0 (aS.mk 9 (gi (gi y180 (0 : Int)).bj.aF 0).aC (gi (gi y180 (0 : Int)).bj.aF 0).bl (gi (gi y180 (0 : Int)).bj.aF 0).aB (gi (gi y180 (0 : Int)).bj.aF 0).aQ (gi (gi y180 (0 : Int)).bj.aF 0).aF)))]) fun y191 =>
  chk (0 ≤ (9 : Int) ∧ (9 : Int) ≤ (9 : Int) ∧ (9 : Int) ≤ 137438953472) <|
  lt (List.replicate ((9 : Int)).toNat ((bM.mk 0 (hZ.mk [])) : bM)) fun q199 =>
  Option.bind (fL m q199 (iu.mk 800) 0) fun y215 =>
  Option.bind (iW m q179 (iu.mk 800)) fun y224 =>
  Option.bind (fL m y191 (iu.mk 800) 3) fun y233 =>
  Option.bind (fL m [] (iu.mk 800) 0) fun y243 =>
  Option.bind (fL m [] (iu.mk 800) 4) fun y253 =>
  Option.bind (fL m [] (iu.mk (-1)) 3) fun y263 =>
  Option.bind (iW m [] (iu.mk 1000000001)) fun y273 =>
  Option.bind (cR m [112,32,123,125]) fun y280 =>
  Option.bind (iW m y280 (iu.mk 1000000000)) fun y287 =>
  Option.bind (jl m (aS.mk 0 [] [] (ay.mk 0 [] 0 (bD.mk [] [] false) []) [] []) (iu.mk 800)) fun y294 =>
  chk (0 ≤ (0 : Int) ∧ (0 : Int) < ln q179) <|
  chk (0 ≤ (0 : Int) ∧ (0 : Int) < ln ((gi q179 (0 : Int)).bj.aF)) <|
  lt ((gi ((gi q179 (0 : Int)).bj.aF) (0 : Int)).aj) fun x299 =>
  lt ((gi ((gi q179 (0 : Int)).bj.aF) (0 : Int)).aB.aj) fun x300 =>
  lt ((gi ((gi q179 (0 : Int)).bj.aF) (0 : Int)).aB.bA) fun x301 =>
  lt ((gi ((gi q179 (0 : Int)).bj.aF) (0 : Int)).aB.Num) fun x302 =>
  lt ((gi ((gi q179 (0 : Int)).bj.aF) (0 : Int)).aB.az.bA) fun x303 =>
  lt ((gi ((gi q179 (0 : Int)).bj.aF) (0 : Int)).aB.az.bK) fun x304 =>
  Option.bind (jl m (aS.mk x299 ((gi ((gi q179 (0 : Int)).bj.aF) (0 : Int)).aC) ((gi ((gi q179 (0 : Int)).bj.aF) (0 : Int)).bl) (ay.mk x300 x301 x302 (bD.mk x303 ((gi ((gi q179 (0 : Int)).bj.aF) (0 : Int)).aB.az.Value) x304) ((gi ((gi q179 (0 : Int)).bj.aF) (0 : Int)).aB.a8)) ((gi ((gi q179 (0 : Int)).bj.aF) (0 : Int)).aQ) ((gi ((gi q179 (0 : Int)).bj.aF) (0 : Int)).aF)) (iu.mk (-1))) fun y305 =>
  lt ((gi ((gi q179 (0 : Int)).bj.aF) (0 : Int)).aj) fun x308 =>
  lt ((gi ((gi q179 (0 : Int)).bj.aF) (0 : Int)).aB.aj) fun x309 =>
  lt ((gi ((gi q179 (0 : Int)).bj.aF) (0 : Int)).aB.bA) fun x310 =>
  lt ((gi ((gi q179 (0 : Int)).bj.aF) (0 : Int)).aB.Num) fun x311 =>
  lt ((gi ((gi q179 (0 : Int)).bj.aF) (0 : Int)).aB.az.bA) fun x312 =>
  lt ((gi ((gi q179 (0 : Int)).bj.aF) (0 : Int)).aB.az.bK) fun x313 =>
  Option.bind (jl m (aS.mk x308 ((gi ((gi q179 (0 : Int)).bj.aF) (0 : Int)).aC) ((gi ((gi q179 (0 : Int)).bj.aF) (0 : Int)).bl) (ay.mk x309 x310 x311 (bD.mk x312 ((gi ((gi q179 (0 : Int)).bj.aF) (0 : Int)).aB.az.Value) x313) ((gi ((gi q179 (0 : Int)).bj.aF) (0 : Int)).aB.a8)) ((gi ((gi q179 (0 : Int)).bj.aF) (0 : Int)).aQ) ((gi ((gi q179 (0 : Int)).bj.aF) (0 : Int)).aF)) (iu.mk 800)) fun y314 =>
  Option.bind (
  Option.bind (o8 m) fun y318 =>
  lt (cond (cond (cond y318 z3 false) z57 false) z88 false) fun x319 =>
  lt (cond (cond x319 z141 false) (y215.2 == 4) false) fun x320 =>
  lt (cond (cond x320 (y224.2 == 8) false) (y233.2 == 8) false) fun x321 =>
  lt (cond (cond x321 (y243.2 == 2) false) (y253.2 == 2) false) fun x322 =>
  lt (cond (cond x322 (y263.2 == 2) false) (y273.2 == 2) false) fun x323 =>
  lt (cond (cond x323 (y287.2 == 0) false) (y294.2 == 8) false) fun x324 =>
  lt (cond (cond x324 (y305.2 == 2) false) (y314.2 == 0) false) fun x325 =>
  Option.bind (cond (cond x325 y314.1 false) (gp m q199) (some default)) fun y326 =>
  lt (cond (cond x325 y314.1 false) (y326 == 4) false) fun x327 =>
  Option.bind (cond x327 (gp m q179) (some default)) fun y328 =>
  lt (cond x327 (y328 == 8) false) fun x329 =>
  cond x329 (
  chk (0 ≤ (1 : Int) ∧ (1 : Int) ≤ (1 : Int) ∧ (1 : Int) ≤ 137438953472) <|
  lt (List.replicate ((1 : Int)).toNat ((bM.mk 0 (hZ.mk [])) : bM)) fun q333 =>
  Option.bind (gp m q333) fun y338 =>
  some (y338 == 8)) (
  some false)) fun (wI : Bool) =>
  some wI)
theorem law28_LayersNames_w  (M : Av) (m : Nat)  (r : Bool) (hm : law28_LayersNames m = some r) (w : World) (hS : S0 M [gE4,Ent.tab 0 (Lib.pow10Tab.map fun z => Value.int .u64 z)] w) : Calls Tryz.prog 3 ⟨[]⟩ w (fun e w' => ∃ v,e = .returned v ∧ v = vB r ∧ SH M (fpl [gE4,Ent.tab 0 (Lib.pow10Tab.map fun z => Value.int .u64 z)]) w [] w'):=by
 rw [law28_LayersNames] at hm
 have hS0 : SH M (fpl [gE4,Ent.tab 0 (Lib.pow10Tab.map fun z => Value.int .u64 z)]) w [gE4,Ent.tab 0 (Lib.pow10Tab.map fun z => Value.int .u64 z)] w:=hS
 generalize hX : fpl [gE4,Ent.tab 0 (Lib.pow10Tab.map fun z => Value.int .u64 z)] = X at hS0 ⊢
 clear hS hX
 have hS:=hS0
 clear hS0
 refine calls_entryP Tryz.func3 rfl Tryz.ntmps3 rfl fun _ H => ?_
 refine t_in H hS ?_
 refine t_r [] [] [] ?_
 obtain ⟨z3,hz,hm⟩:=bindE hm
 refine t_cut [1] [vB z3] [gE4,Ent.tab 0 (Lib.pow10Tab.map fun z => Value.int .u64 z)] ?_ ?_
 ·replace hm:=hz
  refine t_start ?_
  obtain ⟨y4,hy4,hm⟩:=bindE hm
  refine t_c [] [0,1] [] [] (dh m _ _ hy4) fun g5 => ?_
  refine t_m [] [0,1,2] [32] [.slice g5.a y4.length g5.c] (fun _ _ H8 hd => o_li (T:=tS) (E:=9) (zv:=vN) [vS [97,47,98,47,99],vS [97,47,98],vS [97,47,100],vS [97],vS [101]] wQ [gL [],gL [],gL [],gL [],gL []] H8 hd rfl (InnL.cons trivial (InnL.cons trivial (InnL.cons trivial (InnL.cons trivial (InnL.cons trivial InnL.nil)))))) fun g9 => ?_
  obtain ⟨y13,hy13,hm⟩:=bindE hm
  obtain ⟨x14,hx14,hm⟩:=letE hm
  refine t_b 4 [35] [vB x14] [kr fun _ hS => eF (aa:=g5) (bN:=g9) m _ _ _ hy13 _ (s0im (s0im (s0im (s0tab s0nil (hS.at 3 rfl)) (hS.im 2 rfl)) (hS.osl 0 rfl)) (hS.osl 1 rfl))] ?_ (he:=by subst hx14; kernel_rfl)
  cases x14
  case false =>
   replace hm:=bF rfl hm
   intro _ _ H16 hS
   refine m_skipG 35 [36,35] (fS [36,35] [undef,vF]) H16 rfl rfl rfl rfl rfl rfl fun _ H47 => ?_
   refine m_skipG 35 [37,35,36] (fS [37,35,36] [undef,vF,undef]) H47 rfl rfl rfl rfl rfl rfl fun _ H48 => ?_
   refine m_skipG 35 [38,35] (fS [38,35] [undef,vF]) H48 rfl rfl rfl rfl rfl rfl fun _ H49 => ?_
   refine t_in H49 hS ?_
   refine t_b 9 [40] [vF] [] ?_
   intro _ _ H51 hS
   refine m_skipG 40 [41,40] (fS [41,40] [undef,vF]) H51 rfl rfl rfl rfl rfl rfl fun _ H52 => ?_
   refine m_skipG 40 [42,40,41] (fS [42,40,41] [undef,vF,undef]) H52 rfl rfl rfl rfl rfl rfl fun _ H53 => ?_
   refine m_skipG 40 [43,40] (fS [43,40] [undef,vF]) H53 rfl rfl rfl rfl rfl rfl fun _ H54 => ?_
   refine t_in H54 hS ?_
   refine t_b 14 [1] [vF] [] (t_end (t_sel [2,3] ?_))
   obtain rfl:=someE hm
   exact t_e [1]
  replace hm:=bT rfl hm
  obtain ⟨y17,hy17,hm⟩:=bindE hm
  intro _ _ H16 hS
  have hd:=hS.hand [] [0,1,2,3] rfl rfl
  refine m_stpG 35 [36,35] [(35,[],vT)] H16 rfl rfl rfl rfl (o_callx H16 rfl rfl (dh m _ _ hy17 _ _ hd)) (fun _ => rfl) fun _ _ v H21 hq => ?_
  obtain ⟨g18,rfl,hq⟩:=hq
  replace hS:=hS.join [] [0,1,2,3] rfl rfl hq
  have hd:=hS.hand [] [0,1,2,3,4] rfl rfl
  refine m_stpG 35 [37,35,36] (fS [35,36] [vT,.slice g18.a y17.length g18.c]) H21 rfl rfl rfl rfl (o_li (T:=tS) (E:=9) (zv:=vN) [vS [0,48,47,120],vS [0,48],vS [0,49],vS [121,47,0,50],vS [121]] wN [gL [],gL [],gL [],gL [],gL []] H21 hd rfl (InnL.cons trivial (InnL.cons trivial (InnL.cons trivial (InnL.cons trivial (InnL.cons trivial InnL.nil)))))) (fun _ => rfl) fun _ _ v H25 hq => ?_
  obtain ⟨g22,rfl,hq⟩:=hq
  replace hS:=hS.join [] [0,1,2,3,4] rfl rfl hq
  obtain ⟨y26,hy26,hm⟩:=bindE hm
  obtain ⟨x27,hx27,hm⟩:=letE hm
  refine t_in H25 hS ?_
  refine t_b 9 [40] [vB x27] [kgr (true = true ∧ True) fun _ hS hg => eF (aa:=g18) (bN:=g22) m _ _ _ hy26 _ (s0im (s0im (s0im (s0tab s0nil (hS.at 5 rfl)) (hS.im 4 rfl)) (hS.osl 0 rfl)) (hS.osl 1 rfl))] ?_ (he:=by subst hx27; kernel_rfl)
  cases x27
  case false =>
   replace hm:=bF rfl hm
   intro _ _ H29 hS
   refine m_skipG 40 [41,40] (fS [41,40] [undef,vF]) H29 rfl rfl rfl rfl rfl rfl fun _ H42 => ?_
   refine m_skipG 40 [42,40,41] (fS [42,40,41] [undef,vF,undef]) H42 rfl rfl rfl rfl rfl rfl fun _ H43 => ?_
   refine m_skipG 40 [43,40] (fS [43,40] [undef,vF]) H43 rfl rfl rfl rfl rfl rfl fun _ H44 => ?_
   refine t_in H44 hS ?_
   refine t_b 14 [1] [vF] [] (t_end (t_sel [4,5] ?_))
   obtain rfl:=someE hm
   exact t_e [1]
  replace hm:=bT rfl hm
  obtain ⟨y30,hy30,hm⟩:=bindE hm
  intro _ _ H29 hS
  have hd:=hS.hand [] [0,1,2,3,4,5] rfl rfl
  refine m_stpG 40 [41,40] [(40,[],vT)] H29 rfl rfl rfl rfl (o_callx H29 rfl rfl (dh m _ _ hy30 _ _ hd)) (fun _ => rfl) fun _ _ v H34 hq => ?_
  obtain ⟨g31,rfl,hq⟩:=hq
  replace hS:=hS.join [] [0,1,2,3,4,5] rfl rfl hq
  have hd:=hS.hand [] [0,1,2,3,4,5,6] rfl rfl
  refine m_stpG 40 [42,40,41] (fS [40,41] [vT,.slice g31.a y30.length g31.c]) H34 rfl rfl rfl rfl (o_li (T:=tS) (E:=9) (zv:=vN) [vS [122,47,120,47,121],vS [122,47,120],vS [122,47,119],vS [122],vS [120]] wO [gL [],gL [],gL [],gL [],gL []] H34 hd rfl (InnL.cons trivial (InnL.cons trivial (InnL.cons trivial (InnL.cons trivial (InnL.cons trivial InnL.nil)))))) (fun _ => rfl) fun _ _ v H38 hq => ?_
  obtain ⟨g35,rfl,hq⟩:=hq
  replace hS:=hS.join [] [0,1,2,3,4,5,6] rfl rfl hq
  obtain ⟨y39,hy39,hm⟩:=bindE hm
  refine t_in H38 hS ?_
  refine t_b 14 [1] [vB y39] [kgr (true = true ∧ True) fun _ hS hg => eF (aa:=g31) (bN:=g35) m _ _ _ hy39 _ (s0im (s0im (s0im (s0tab s0nil (hS.at 7 rfl)) (hS.im 6 rfl)) (hS.osl 0 rfl)) (hS.osl 1 rfl))] (t_end (t_sel [6,7] ?_))
  obtain rfl:=someE hm
  exact t_e [1]
 ·obtain ⟨z57,hz,hm⟩:=bindE hm
  refine t_cut [1,2] [vB z3,vB z57] [gE4,Ent.tab 0 (Lib.pow10Tab.map fun z => Value.int .u64 z)] ?_ ?_
  ·replace hm:=hz
   refine t_start ?_
   obtain ⟨y58,hy58,hm⟩:=bindE hm
   refine t_c [] [0,1] [1] [vB z3] (dh m _ _ hy58) fun g59 => ?_
   refine t_m [] [0,1,2] [1,45] [vB z3,.slice g59.a y58.length g59.c] (fun _ _ H62 hd => o_li (T:=tS) (E:=9) (zv:=vN) [vS [97],vS [99]] kL5 [gL [],gL []] H62 hd rfl (InnL.cons trivial (InnL.cons trivial InnL.nil))) fun g63 => ?_
   obtain ⟨y67,hy67,hm⟩:=bindE hm
   obtain ⟨x68,hx68,hm⟩:=letE hm
   refine t_b 4 [1,48] [vB z3,vB x68] [kr fun _ hS => eF (aa:=g59) (bN:=g63) m _ _ _ hy67 _ (s0im (s0im (s0im (s0tab s0nil (hS.at 3 rfl)) (hS.im 2 rfl)) (hS.osl 0 rfl)) (hS.osl 1 rfl))] ?_ (he:=by subst hx68; kernel_rfl)
   cases x68
   case false =>
    replace hm:=bF rfl hm
    intro _ _ H70 hS
    refine m_skipG 48 [49,1,48] (fS [49,1,48] [undef,vB z3,vF]) H70 rfl rfl rfl rfl rfl rfl fun _ H83 => ?_
    refine m_skipG 48 [50,1,48,49] (fS [50,1,48,49] [undef,vB z3,vF,undef]) H83 rfl rfl rfl rfl rfl rfl fun _ H84 => ?_
    refine m_skipG 48 [51,1,48] (fS [51,1,48] [undef,vB z3,vF]) H84 rfl rfl rfl rfl rfl rfl fun _ H85 => ?_
    refine t_in H85 hS ?_
    refine t_b 9 [1,2] [vB z3,vF] [] (t_end (t_sel [2,3] ?_))
    obtain rfl:=someE hm
    exact t_e [1,2]
   replace hm:=bT rfl hm
   obtain ⟨y71,hy71,hm⟩:=bindE hm
   intro _ _ H70 hS
   have hd:=hS.hand [] [0,1,2,3] rfl rfl
   refine m_stpG 48 [49,1,48] (fS [1,48] [vB z3,vT]) H70 rfl rfl rfl rfl (o_callx H70 rfl rfl (dh m _ _ hy71 _ _ hd)) (fun _ => rfl) fun _ _ v H75 hq => ?_
   obtain ⟨g72,rfl,hq⟩:=hq
   replace hS:=hS.join [] [0,1,2,3] rfl rfl hq
   have hd:=hS.hand [] [0,1,2,3,4] rfl rfl
   refine m_stpG 48 [50,1,48,49] (fS [1,48,49] [vB z3,vT,.slice g72.a y71.length g72.c]) H75 rfl rfl rfl rfl (o_li (T:=tS) (E:=9) (zv:=vN) [vS [97],vS [99]] kL5 [gL [],gL []] H75 hd rfl (InnL.cons trivial (InnL.cons trivial InnL.nil))) (fun _ => rfl) fun _ _ v H79 hq => ?_
   obtain ⟨g76,rfl,hq⟩:=hq
   replace hS:=hS.join [] [0,1,2,3,4] rfl rfl hq
   obtain ⟨y80,hy80,hm⟩:=bindE hm
   refine t_in H79 hS ?_
   refine t_b 9 [1,2] [vB z3,vB y80] [kgr (true = true ∧ True) fun _ hS hg => eF (aa:=g72) (bN:=g76) m _ _ _ hy80 _ (s0im (s0im (s0im (s0tab s0nil (hS.at 5 rfl)) (hS.im 4 rfl)) (hS.osl 0 rfl)) (hS.osl 1 rfl))] (t_end (t_sel [4,5] ?_))
   obtain rfl:=someE hm
   exact t_e [1,2]
  ·obtain ⟨z88,hz,hm⟩:=bindE hm
   refine t_cut [1,2,3] [vB z3,vB z57,vB z88] [gE4,Ent.tab 0 (Lib.pow10Tab.map fun z => Value.int .u64 z)] ?_ ?_
   ·replace hm:=hz
    refine t_start ?_
    obtain ⟨y89,hy89,hm⟩:=bindE hm
    refine t_c [] [0,1] [1,2] [vB z3,vB z57] (dh m _ _ hy89) fun g90 => ?_
    refine t_m [] [0,1,2] [1,2,53] [vB z3,vB z57,.slice g90.a y89.length g90.c] (fun _ _ H93 hd => o_li (T:=(tI .i64)) (E:=3) (zv:=vI 0) [vI 0,vI 3,vI 2,vI 1,vI 2,vI 0] ([0,3,2,1,2,0] : List Int) [gL [],gL [],gL [],gL [],gL [],gL []] H93 hd rfl (InnL.cons trivial (InnL.cons trivial (InnL.cons trivial (InnL.cons trivial (InnL.cons trivial (InnL.cons trivial InnL.nil))))))) fun g94 => ?_
    obtain ⟨y98,hy98,hm⟩:=bindE hm
    obtain ⟨y99,hy99,hm⟩:=bindE hm
    obtain ⟨x100,hx100,hm⟩:=letE hm
    refine t_b 7 [1,2,59] [vB z3,vB z57,vB x100] [kr fun _ hS => fw (aa:=g90) (bN:=g94) m _ _ _ hy98 _ (s0im (s0im (s0im (s0tab s0nil (hS.at 3 rfl)) (hS.im 2 rfl)) (hS.osl 0 rfl)) (hS.osl 1 rfl)),kgr (y98 = true ∧ True) fun _ hS hg => fw (aa:=Gh.nil) (bN:=Gh.nil) m _ _ _ (bT (hg.1) hy99) _ (s0im (s0im (s0im (s0tab s0nil (hS.at 3 rfl)) (hS.im 2 rfl)) (SlG.nil (M:=F0) (g:=Gh.nil))) (SlG.nil (M:=F0) (g:=Gh.nil)))] ?_ (he:=by subst hx100; kernel_rfl)
    cases x100
    case false =>
     replace hm:=bF rfl hm
     intro _ _ H102 hS
     refine m_skipG 59 [60,1,2,59] (fS [60,1,2,59] [undef,vB z3,vB z57,vF]) H102 rfl rfl rfl rfl rfl rfl fun _ H115 => ?_
     refine m_skipG 59 [61,1,2,59,60] (fS [61,1,2,59,60] [undef,vB z3,vB z57,vF,undef]) H115 rfl rfl rfl rfl rfl rfl fun _ H116 => ?_
     refine m_skipG 59 [62,1,2,59] (fS [62,1,2,59] [undef,vB z3,vB z57,vF]) H116 rfl rfl rfl rfl rfl rfl fun _ H117 => ?_
     refine t_in H117 hS ?_
     refine t_b 12 [1,2,3] [vB z3,vB z57,vF] [] (t_end (t_sel [2,3] ?_))
     obtain rfl:=someE hm
     exact t_e [1,2,3]
    replace hm:=bT rfl hm
    obtain ⟨y103,hy103,hm⟩:=bindE hm
    intro _ _ H102 hS
    have hd:=hS.hand [] [0,1,2,3] rfl rfl
    refine m_stpG 59 [60,1,2,59] (fS [1,2,59] [vB z3,vB z57,vT]) H102 rfl rfl rfl rfl (o_callx H102 rfl rfl (dh m _ _ hy103 _ _ hd)) (fun _ => rfl) fun _ _ v H107 hq => ?_
    obtain ⟨g104,rfl,hq⟩:=hq
    replace hS:=hS.join [] [0,1,2,3] rfl rfl hq
    have hd:=hS.hand [] [0,1,2,3,4] rfl rfl
    refine m_stpG 59 [61,1,2,59,60] (fS [1,2,59,60] [vB z3,vB z57,vT,.slice g104.a y103.length g104.c]) H107 rfl rfl rfl rfl (o_li (T:=(tI .i64)) (E:=3) (zv:=vI 0) [vI 0] ([0] : List Int) [gL []] H107 hd rfl (InnL.cons trivial InnL.nil)) (fun _ => rfl) fun _ _ v H111 hq => ?_
    obtain ⟨g108,rfl,hq⟩:=hq
    replace hS:=hS.join [] [0,1,2,3,4] rfl rfl hq
    obtain ⟨y112,hy112,hm⟩:=bindE hm
    refine t_in H111 hS ?_
    refine t_b 12 [1,2,3] [vB z3,vB z57,vB y112] [kgr (true = true ∧ True) fun _ hS hg => fw (aa:=g104) (bN:=g108) m _ _ _ hy112 _ (s0im (s0im (s0im (s0tab s0nil (hS.at 5 rfl)) (hS.im 4 rfl)) (hS.osl 0 rfl)) (hS.osl 1 rfl))] (t_end (t_sel [4,5] ?_))
    obtain rfl:=someE hm
    exact t_e [1,2,3]
   ·refine t_starts ?_
    obtain ⟨y120,hy120,hm⟩:=bindE hm
    refine t_c [] [0,1] [1,2,3] [vB z3,vB z57,vB z88] (ni m _ _ _ hy120) fun g121 => ?_
    obtain ⟨y125,hy125,hm⟩:=bindE hm
    refine t_c [] [0,1,2] [1,2,3,64] [vB z3,vB z57,vB z88,vG [vU y120.ed,.slice g121.a y120.bj.aF.length g121.c]] (ni m _ _ _ hy125) fun g126 => ?_
    obtain ⟨y130,hy130,hm⟩:=bindE hm
    refine t_c [] [0,1,2,3] [1,2,3,64,65] [vB z3,vB z57,vB z88,vG [vU y120.ed,.slice g121.a y120.bj.aF.length g121.c],vG [vU y125.ed,.slice g126.a y125.bj.aF.length g126.c]] (ni m _ _ _ hy130) fun g131 => ?_
    refine t_frz [2,0,1,3,4] ?_
    refine t_frz [2,0,1,3,4] ?_
    refine t_frz [2,0,1,3,4] ?_
    refine t_m [2,1,0] [0,1,2,3,4] [1,2,3] [vB z3,vB z57,vB z88] (fun _ _ H134 hd => o_li (T:=bx) (E:=30) (zv:=vG [vU 0,vO]) [vU y120.ed,.slice g121.a y120.bj.aF.length g121.c,vU y125.ed,.slice g126.a y125.bj.aF.length g126.c,vU y130.ed,.slice g131.a y130.bj.aF.length g131.c] ([y120,y125,y130] : List bM) [gL [g121],gL [g126],gL [g131]] H134 hd rfl (InnL.cons (ge (hd.im 0 rfl)) (InnL.cons (ge (hd.im 1 rfl)) (InnL.cons (ge (hd.im 2 rfl)) InnL.nil)))) fun g135 => ?_
    refine t_b 5 [1,2,3,4] [vB z3,vB z57,vB z88,vK g135 3] [] (t_end (t_sel [0,4,5] ?_))
    obtain ⟨z141,hz,hm⟩:=bindE hm
    refine t_cut [1,2,3,5] [vB z3,vB z57,vB z88,vB z141] [eO 30 bx ([y120,y125,y130] : List bM) g135,gE4,Ent.tab 0 (Lib.pow10Tab.map fun z => Value.int .u64 z)] ?_ ?_
    ·replace hm:=hz
     refine t_start ?_
     refine t_b 1 [1,2,3,4,68] [vB z3,vB z57,vB z88,vK g135 3,vK g135 3] [] ?_
     refine t_m [] [0,1,2] [1,2,3,4,68] [vB z3,vB z57,vB z88,vK g135 3,vK g135 3] (fun _ _ H143 hd => o_li (T:=(tI .i64)) (E:=3) (zv:=vI 0) [vI 2,vI 0,vI 1] ([2,0,1] : List Int) [gL [],gL [],gL []] H143 hd rfl (InnL.cons trivial (InnL.cons trivial (InnL.cons trivial InnL.nil)))) fun g144 => ?_
     obtain ⟨y148,hy148,hm⟩:=bindE hm
     obtain ⟨x149,hx149,hm⟩:=letE hm
     refine t_b 4 [1,2,3,4,71] [vB z3,vB z57,vB z88,vK g135 3,vB x149] [kr fun _ hS => fw (aa:=g135) (bN:=g144) m _ _ _ hy148 _ (s0im (s0im (s0im (s0tab s0nil (hS.at 3 rfl)) (hS.im 2 rfl)) (hS.osl 0 rfl)) (hS.osl 1 rfl))] ?_ (he:=by subst hx149; kernel_rfl)
     cases x149
     case false =>
      replace hm:=bF rfl hm
      intro _ _ H151 hS
      refine m_skipG 71 [72,1,2,3,71] (fS [72,1,2,3,71] [undef,vB z3,vB z57,vB z88,vF]) H151 rfl rfl rfl rfl rfl rfl fun _ H161 => ?_
      refine m_skipG 71 [73,1,2,3,71,72] (fS [73,1,2,3,71,72] [undef,vB z3,vB z57,vB z88,vF,undef]) H161 rfl rfl rfl rfl rfl rfl fun _ H162 => ?_
      refine m_skipG 71 [74,1,2,3,71] (fS [74,1,2,3,71] [undef,vB z3,vB z57,vB z88,vF]) H162 rfl rfl rfl rfl rfl rfl fun _ H163 => ?_
      refine t_in H163 hS ?_
      refine t_b 9 [1,2,3,5] [vB z3,vB z57,vB z88,vF] [] (t_end (t_sel [1,2,3] ?_))
      obtain rfl:=someE hm
      exact t_e [1,2,3,5]
     replace hm:=bT rfl hm
     intro _ _ H151 hS
     refine wl_batchM 4 5 [] [(1,0),(2,0),(3,0),(71,0),(72,1)] (fS [1,2,3,71,72] [vB z3,vB z57,vB z88,vT,vK g135 3]) [] H151 (by decide) (by kernel_rfl) trivial fun _ _ H153 hb => ?_
     replace hS:=hS.below hb
     have hd:=hS.hand [] [0,1,2,3] rfl rfl
     refine m_stpG 71 [73,1,2,3,71,72] (fS [1,2,3,71,72] [vB z3,vB z57,vB z88,vT,vK g135 3]) H153 rfl rfl rfl rfl (o_li (T:=tS) (E:=9) (zv:=vN) [vS [121]] ([[121]] : List Str) [gL []] H153 hd rfl (InnL.cons trivial InnL.nil)) (fun _ => rfl) fun _ _ v H157 hq => ?_
     obtain ⟨g154,rfl,hq⟩:=hq
     replace hS:=hS.join [] [0,1,2,3] rfl rfl hq
     obtain ⟨y158,hy158,hm⟩:=bindE hm
     refine t_in H157 hS ?_
     refine t_b 9 [1,2,3,5] [vB z3,vB z57,vB z88,vB y158] [kgr (true = true ∧ True) fun _ hS hg => eF (aa:=g135) (bN:=g154) m _ _ _ hy158 _ (s0im (s0im (s0im (s0tab s0nil (hS.at 4 rfl)) (hS.im 3 rfl)) (hS.osl 0 rfl)) (hS.osl 2 rfl))] (t_end (t_sel [2,3,4] ?_))
     obtain rfl:=someE hm
     exact t_e [1,2,3,5]
    ·refine t_sel [1,2] (t_starts ?_)
     obtain ⟨y166,hy166,hm⟩:=bindE hm
     refine t_c [] [0,1] [1,2,3,5] [vB z3,vB z57,vB z88,vB z141] (dh m _ _ hy166) fun g167 => ?_
     refine t_b 2 [1,2,3,5,6] [vB z3,vB z57,vB z88,vB z141,.slice g167.a y166.length g167.c] [] (t_end (t_starts ?_))
     obtain ⟨ho173,hm⟩:=chkE hm
     refine t_b 3 [1,2,3,5,6,79] [vB z3,vB z57,vB z88,vB z141,.slice g167.a y166.length g167.c,.pointer (some ⟨ab g167.a,ao g167.a + ((0 : Int)).toNat * 2,none⟩)] [kI 0 ho173] ?_
     intro _ _ H175 hS
     have hd:=hS.hand [0] [1,2] rfl rfl
     refine m_stp0 [1,2,3,5,6] (fS [1,2,3,5,6] [vB z3,vB z57,vB z88,vB z141,.slice g167.a y166.length g167.c]) H175 rfl rfl rfl (o_estore (T:=bx) (g:=g167) (q:=y166) (ix:=(0 : Int)) (off:=0) (bM.mk 4 ((gi y166 (0 : Int)).bj)) (gL [(g167.s ((0 : Int)).toNat 0)]) H175 hd rfl rfl rfl rfl (by kernel_rfl) rfl rfl ho173 rfl (ge (cF (x:=(gi y166 (0 : Int))) (g:=g167.s ((0 : Int)).toNat) ((hd.ow 0 rfl).el ho173))) rfl) rfl fun _ _ H177 hq => ?_
     obtain ⟨_,hq⟩:=hq
     obtain ⟨s178,hq⟩:=hq
     obtain ⟨q179,hq179,hm⟩:=letE hm
     rw [← hq179] at hq
     have hn : y166.length = q179.length:=by rw [hq179,setl_len]
     first | (unfold vL at H177; rw [hn] at H177) | rw [hn] at H177 | skip
     first | (unfold vL at hS; rw [hn] at hS) | rw [hn] at hS | skip
     clear hn
     replace hS:=hS.join [0] [1,2] rfl rfl hq
     refine t_in H177 hS (t_end (t_starts ?_))
     obtain ⟨y180,hy180,hm⟩:=bindE hm
     obtain ⟨x180,rfl,hc180⟩:=rp m _ _ hy180
     refine t_m [] [0,1,2] [1,2,3,5,6] [vB z3,vB z57,vB z88,vB z141,.slice (Gh.mk g167.a g167.c s178).a q179.length (Gh.mk g167.a g167.c s178).c] (fun _ _ H177 hd => o_callx H177 rfl rfl (hc180 _ _ hd)) fun p181 => ?_
     refine t_b 2 [1,2,3,5,6,7] [vB z3,vB z57,vB z88,vB z141,.slice (Gh.mk g167.a g167.c s178).a q179.length (Gh.mk g167.a g167.c s178).c,.slice p181.1.a 1 p181.1.c] [] (t_end (t_seq ?_))
     have h0 : 0 ≤ (0 : Int) ∧ (0 : Int) < ln [(x180,p181.2)]:=⟨Int.le_refl 0,by simp [ln]⟩
     obtain ⟨ho187,hm⟩:=chkE hm
     obtain ⟨x188,hx188,hm⟩:=letE hm
     refine t_r [1,2,3,5,6,7,87] [vB z3,vB z57,vB z88,vB z141,.slice (Gh.mk g167.a g167.c s178).a q179.length (Gh.mk g167.a g167.c s178).c,.slice p181.1.a 1 p181.1.c,vB x188] [kI 0 h0,kJ 0 1 h0] ?_ (he:=by subst hx188; kernel_rfl)
     refine t_im hm (fun hm => ?c347) (fun hm => ?_)
     case c347 =>
      exact fun _ _ _ _ => noneE hm
     refine t_skip (t_starts ?_)
     obtain ⟨hoR,hm⟩:=chkE hm
     replace hoR : 0 ≤ (0 : Int) ∧ (0 : Int) < ln x180.bj.aF:=hoR
     obtain ⟨y191,hy191,hm⟩:=letE hm
     refine t_b 7 [1,2,3,5,6,7,94] [vB z3,vB z57,vB z88,vB z141,.slice (Gh.mk g167.a g167.c s178).a q179.length (Gh.mk g167.a g167.c s178).c,.slice p181.1.a 1 p181.1.c,.pointer (some ⟨ab p181.2.a,ao p181.2.a + (0 : Int).toNat * 12,none⟩)] [kI 0 h0,kJ 0 1 h0,kI 1 hoR] ?_
     intro _ _ H hS
     have hd:=hS.hand [1] [0,2,3,4] rfl rfl
     have hr:=(hd.ow 0 rfl).el hoR
     refine m_stp0 [1,2,3,5,6,7] (fS [1,2,3,5,6,7] [vB z3,vB z57,vB z88,vB z141,.slice (Gh.mk g167.a g167.c s178).a q179.length (Gh.mk g167.a g167.c s178).c,.slice p181.1.a 1 p181.1.c]) H rfl rfl rfl (o_estore (T:=aJ) (g:=p181.2) (q:=x180.bj.aF) (ix:=(0 : Int)) (off:=0) (aS.mk 9 (gi x180.bj.aF 0).aC (gi x180.bj.aF 0).bl (gi x180.bj.aF 0).aB (gi x180.bj.aF 0).aQ (gi x180.bj.aF 0).aF) (p181.2.s (0 : Int).toNat) H hd rfl rfl rfl rfl (by kernel_rfl) rfl rfl hoR rfl (wL hr) rfl) rfl fun _ _ H hq => ?_
     obtain ⟨_,s189,hq⟩:=hq
     replace hS:=hS.join [1] [0,2,3,4] rfl rfl hq
     replace hS:=wJ (x:=x180) (rs:=setl x180.bj.aF 0 (aS.mk 9 (gi x180.bj.aF 0).aC (gi x180.bj.aF 0).bl (gi x180.bj.aF 0).aB (gi x180.bj.aF 0).aQ (gi x180.bj.aF 0).aF)) (g:=p181.2) (g2:=Gh.mk p181.2.a p181.2.c s189) (g1:=p181.1) (L:=[eO 30 bx q179 (Gh.mk g167.a g167.c s178),gE4,Ent.tab 0 (Lib.pow10Tab.map fun z => Value.int .u64 z)]) (setl_len _ _ _) rfl rfl (SH.frz1 hS)
     have hy : y191 = [bM.mk x180.ed (hZ.mk (setl x180.bj.aF 0 (aS.mk 9 (gi x180.bj.aF 0).aC (gi x180.bj.aF 0).bl (gi x180.bj.aF 0).aB (gi x180.bj.aF 0).aQ (gi x180.bj.aF 0).aF)))]:=hy191
     rw [← hy] at hS
     generalize hg192 : (Gh.mk p181.1.a p181.1.c fun _ _ => Gh.mk p181.2.a p181.2.c s189) = g192 at hS
     have ha192 : g192.a = p181.1.a:=by rw [← hg192]; rfl
     have hc192 : g192.c = p181.1.c:=by rw [← hg192]; rfl
     have hl192 : y191.length = 1:=by rw [hy]; rfl
     have hv : Value.slice p181.1.a 1 p181.1.c = .slice g192.a y191.length g192.c:=by rw [ha192,hc192,hl192]
     rw [hv] at H
     clear hy191 hy hg192 ha192 hc192 hl192 hv
     refine t_in H hS (t_end (t_starts ?_))
     obtain ⟨ho198,hm⟩:=chkE hm
     obtain ⟨q199,hq199,hm⟩:=letE hm
     refine t_m [] [0,1,2,3] [1,2,3,5,6,7] [vB z3,vB z57,vB z88,vB z141,.slice (Gh.mk g167.a g167.c s178).a q179.length (Gh.mk g167.a g167.c s178).c,.slice g192.a y191.length g192.c] (fun _ _ H197 hd => o_make (T:=bx) (E:=30) (zv:=vG [vU 0,vO]) ((bM.mk 0 (hZ.mk [])) : bM) H197 hd rfl rfl (by kernel_rfl) (by kernel_rfl) rfl rfl (fun _ _ => ge SlG.nil) ho198) fun g202 => ?_
     rw [← hq199]
     refine t_b 2 [1,2,3,5,6,7,8] [vB z3,vB z57,vB z88,vB z141,.slice (Gh.mk g167.a g167.c s178).a q179.length (Gh.mk g167.a g167.c s178).c,.slice g192.a y191.length g192.c,.slice g202.a q199.length g202.c] [] (t_end (t_starts ?_))
     refine t_b 1 [1,2,3,5,6,7,8,96] [vB z3,vB z57,vB z88,vB z141,.slice (Gh.mk g167.a g167.c s178).a q179.length (Gh.mk g167.a g167.c s178).c,.slice g192.a y191.length g192.c,.slice g202.a q199.length g202.c,vG [vI 800]] [] ?_
     refine t_m [] [0,1,2,3,4] [1,2,3,5,6,7,8,96] [vB z3,vB z57,vB z88,vB z141,.slice (Gh.mk g167.a g167.c s178).a q179.length (Gh.mk g167.a g167.c s178).c,.slice g192.a y191.length g192.c,.slice g202.a q199.length g202.c,vG [vI 800]] (fun _ _ H207 hd => o_alloc [vI 0] (z:=vG [vI 0]) hd (by kernel_rfl) rfl) fun b208 => ?_
     refine t_m0 [0] [1,2,3,4,5] [1,2,3,5,6,7,8,9] [vB z3,vB z57,vB z88,vB z141,.slice (Gh.mk g167.a g167.c s178).a q179.length (Gh.mk g167.a g167.c s178).c,.slice g192.a y191.length g192.c,.slice g202.a q199.length g202.c,vP b208] (fun _ _ H210 hd => o_store [vI 800] H210 hd rfl rfl (by kernel_rfl) rfl rfl rfl) (t_end (t_starts ?_))
     refine t_b 2 [1,2,3,5,6,7,8,9,98,99] [vB z3,vB z57,vB z88,vB z141,.slice (Gh.mk g167.a g167.c s178).a q179.length (Gh.mk g167.a g167.c s178).c,.slice g192.a y191.length g192.c,.slice g202.a q199.length g202.c,vP b208,.slice g202.a q199.length g202.c,vG [vI 800]] [kE 0 1] ?_
     refine t_frz [1,0,2,3,4,5] ?_
     obtain ⟨y215,hy215,hm⟩:=bindE hm
     refine t_c [0,4,5] [0,1,2,3,4,5] [1,2,3,5,6,7,8,9] [vB z3,vB z57,vB z88,vB z141,.slice (Gh.mk g167.a g167.c s178).a q179.length (Gh.mk g167.a g167.c s178).c,.slice g192.a y191.length g192.c,.slice g202.a q199.length g202.c,vP b208] (fv (aa:=g202) m _ _ _ _ hy215) fun g216 => ?_
     refine t_b 8 [1,2,3,5,6,7,8,9,11] [vB z3,vB z57,vB z88,vB z141,.slice (Gh.mk g167.a g167.c s178).a q179.length (Gh.mk g167.a g167.c s178).c,.slice g192.a y191.length g192.c,.slice g202.a q199.length g202.c,vP b208,vI y215.2] [] (t_end (t_sel [1,2,3,4,5,6] (t_starts ?_)))
     refine t_b 2 [1,2,3,5,6,7,8,9,11,104,105] [vB z3,vB z57,vB z88,vB z141,.slice (Gh.mk g167.a g167.c s178).a q179.length (Gh.mk g167.a g167.c s178).c,.slice g192.a y191.length g192.c,.slice g202.a q199.length g202.c,vP b208,vI y215.2,.slice (Gh.mk g167.a g167.c s178).a q179.length (Gh.mk g167.a g167.c s178).c,vG [vI 800]] [kE 1 1] ?_
     refine t_frz [3,0,1,2,4,5] ?_
     obtain ⟨y224,hy224,hm⟩:=bindE hm
     refine t_c [0,4,5] [0,1,2,3,4,5] [1,2,3,5,6,7,8,9,11] [vB z3,vB z57,vB z88,vB z141,.slice (Gh.mk g167.a g167.c s178).a q179.length (Gh.mk g167.a g167.c s178).c,.slice g192.a y191.length g192.c,.slice g202.a q199.length g202.c,vP b208,vI y215.2] (jj (aa:=(Gh.mk g167.a g167.c s178)) m _ _ _ hy224) fun g225 => ?_
     refine t_b 8 [1,2,3,5,6,7,8,9,11,13] [vB z3,vB z57,vB z88,vB z141,.slice (Gh.mk g167.a g167.c s178).a q179.length (Gh.mk g167.a g167.c s178).c,.slice g192.a y191.length g192.c,.slice g202.a q199.length g202.c,vP b208,vI y215.2,vI y224.2] [] (t_end (t_sel [1,2,3,4,5,6] (t_starts ?_)))
     refine t_b 2 [1,2,3,5,6,8,9,11,13,110,111] [vB z3,vB z57,vB z88,vB z141,.slice (Gh.mk g167.a g167.c s178).a q179.length (Gh.mk g167.a g167.c s178).c,.slice g202.a q199.length g202.c,vP b208,vI y215.2,vI y224.2,.slice g192.a y191.length g192.c,vG [vI 800]] [kE 2 1] ?_
     refine t_frz [3,0,1,2,4,5] ?_
     obtain ⟨y233,hy233,hm⟩:=bindE hm
     refine t_c [0,4,5] [0,1,2,3,4,5] [1,2,3,5,6,8,9,11,13] [vB z3,vB z57,vB z88,vB z141,.slice (Gh.mk g167.a g167.c s178).a q179.length (Gh.mk g167.a g167.c s178).c,.slice g202.a q199.length g202.c,vP b208,vI y215.2,vI y224.2] (fv (aa:=g192) m _ _ _ _ hy233) fun g234 => ?_
     refine t_b 8 [1,2,3,5,6,8,9,11,13,15] [vB z3,vB z57,vB z88,vB z141,.slice (Gh.mk g167.a g167.c s178).a q179.length (Gh.mk g167.a g167.c s178).c,.slice g202.a q199.length g202.c,vP b208,vI y215.2,vI y224.2,vI y233.2] [] (t_end (t_sel [2,3,4,5,6] (t_starts ?_)))
     refine t_b 1 [1,2,3,5,6,8,9,11,13,15,116] [vB z3,vB z57,vB z88,vB z141,.slice (Gh.mk g167.a g167.c s178).a q179.length (Gh.mk g167.a g167.c s178).c,.slice g202.a q199.length g202.c,vP b208,vI y215.2,vI y224.2,vI y233.2,vG [vI 800]] [kE 2 1] ?_
     refine t_nil 30 bx ?_
     refine t_frz [0,1,2,3,4,5] ?_
     obtain ⟨y243,hy243,hm⟩:=bindE hm
     refine t_c [0,4,5] [0,1,2,3,4,5] [1,2,3,5,6,8,9,11,13,15] [vB z3,vB z57,vB z88,vB z141,.slice (Gh.mk g167.a g167.c s178).a q179.length (Gh.mk g167.a g167.c s178).c,.slice g202.a q199.length g202.c,vP b208,vI y215.2,vI y224.2,vI y233.2] (fv (aa:=Gh.nil) m _ _ _ _ hy243) fun g244 => ?_
     refine t_b 7 [1,2,3,5,6,8,9,11,13,15,17] [vB z3,vB z57,vB z88,vB z141,.slice (Gh.mk g167.a g167.c s178).a q179.length (Gh.mk g167.a g167.c s178).c,.slice g202.a q199.length g202.c,vP b208,vI y215.2,vI y224.2,vI y233.2,vI y243.2] [] (t_end (t_sel [2,3,4,5,6] (t_starts ?_)))
     refine t_b 1 [1,2,3,5,6,8,9,11,13,15,17,121] [vB z3,vB z57,vB z88,vB z141,.slice (Gh.mk g167.a g167.c s178).a q179.length (Gh.mk g167.a g167.c s178).c,.slice g202.a q199.length g202.c,vP b208,vI y215.2,vI y224.2,vI y233.2,vI y243.2,vG [vI 800]] [kE 2 1] ?_
     refine t_nil 30 bx ?_
     refine t_frz [0,1,2,3,4,5] ?_
     obtain ⟨y253,hy253,hm⟩:=bindE hm
     refine t_c [0,4,5] [0,1,2,3,4,5] [1,2,3,5,6,8,9,11,13,15,17] [vB z3,vB z57,vB z88,vB z141,.slice (Gh.mk g167.a g167.c s178).a q179.length (Gh.mk g167.a g167.c s178).c,.slice g202.a q199.length g202.c,vP b208,vI y215.2,vI y224.2,vI y233.2,vI y243.2] (fv (aa:=Gh.nil) m _ _ _ _ hy253) fun g254 => ?_
     refine t_b 7 [1,2,3,5,6,8,9,11,13,15,17,19] [vB z3,vB z57,vB z88,vB z141,.slice (Gh.mk g167.a g167.c s178).a q179.length (Gh.mk g167.a g167.c s178).c,.slice g202.a q199.length g202.c,vP b208,vI y215.2,vI y224.2,vI y233.2,vI y243.2,vI y253.2] [] (t_end (t_sel [2,3,4,5,6] (t_starts ?_)))
     refine t_b 1 [1,2,3,5,6,8,9,11,13,15,17,19,126] [vB z3,vB z57,vB z88,vB z141,.slice (Gh.mk g167.a g167.c s178).a q179.length (Gh.mk g167.a g167.c s178).c,.slice g202.a q199.length g202.c,vP b208,vI y215.2,vI y224.2,vI y233.2,vI y243.2,vI y253.2,vG [vI (-1)]] [] ?_
     refine t_nil 30 bx ?_
     refine t_frz [0,1,2,3,4,5] ?_
     obtain ⟨y263,hy263,hm⟩:=bindE hm
     refine t_c [0,4,5] [0,1,2,3,4,5] [1,2,3,5,6,8,9,11,13,15,17,19] [vB z3,vB z57,vB z88,vB z141,.slice (Gh.mk g167.a g167.c s178).a q179.length (Gh.mk g167.a g167.c s178).c,.slice g202.a q199.length g202.c,vP b208,vI y215.2,vI y224.2,vI y233.2,vI y243.2,vI y253.2] (fv (aa:=Gh.nil) m _ _ _ _ hy263) fun g264 => ?_
     refine t_b 7 [1,2,3,5,6,8,9,11,13,15,17,19,21] [vB z3,vB z57,vB z88,vB z141,.slice (Gh.mk g167.a g167.c s178).a q179.length (Gh.mk g167.a g167.c s178).c,.slice g202.a q199.length g202.c,vP b208,vI y215.2,vI y224.2,vI y233.2,vI y243.2,vI y253.2,vI y263.2] [] (t_end (t_sel [2,3,4,5,6] (t_starts ?_)))
     refine t_b 1 [1,2,3,5,6,8,9,11,13,15,17,19,21,131] [vB z3,vB z57,vB z88,vB z141,.slice (Gh.mk g167.a g167.c s178).a q179.length (Gh.mk g167.a g167.c s178).c,.slice g202.a q199.length g202.c,vP b208,vI y215.2,vI y224.2,vI y233.2,vI y243.2,vI y253.2,vI y263.2,vG [vI 1000000001]] [] ?_
     refine t_nil 30 bx ?_
     refine t_frz [0,1,2,3,4,5] ?_
     obtain ⟨y273,hy273,hm⟩:=bindE hm
     refine t_c [0,4,5] [0,1,2,3,4,5] [1,2,3,5,6,8,9,11,13,15,17,19,21] [vB z3,vB z57,vB z88,vB z141,.slice (Gh.mk g167.a g167.c s178).a q179.length (Gh.mk g167.a g167.c s178).c,.slice g202.a q199.length g202.c,vP b208,vI y215.2,vI y224.2,vI y233.2,vI y243.2,vI y253.2,vI y263.2] (jj (aa:=Gh.nil) m _ _ _ hy273) fun g274 => ?_
     refine t_b 7 [1,2,3,5,6,8,9,11,13,15,17,19,21,23] [vB z3,vB z57,vB z88,vB z141,.slice (Gh.mk g167.a g167.c s178).a q179.length (Gh.mk g167.a g167.c s178).c,.slice g202.a q199.length g202.c,vP b208,vI y215.2,vI y224.2,vI y233.2,vI y243.2,vI y253.2,vI y263.2,vI y273.2] [] (t_end (t_sel [2,3,4,5,6] (t_starts ?_)))
     obtain ⟨y280,hy280,hm⟩:=bindE hm
     refine t_c [] [0,1,2,3,4] [1,2,3,5,6,8,9,11,13,15,17,19,21,23] [vB z3,vB z57,vB z88,vB z141,.slice (Gh.mk g167.a g167.c s178).a q179.length (Gh.mk g167.a g167.c s178).c,.slice g202.a q199.length g202.c,vP b208,vI y215.2,vI y224.2,vI y233.2,vI y243.2,vI y253.2,vI y263.2,vI y273.2] (dh m _ _ hy280) fun g281 => ?_
     refine t_b 2 [1,2,3,5,6,8,9,11,13,15,17,19,21,23,136,137] [vB z3,vB z57,vB z88,vB z141,.slice (Gh.mk g167.a g167.c s178).a q179.length (Gh.mk g167.a g167.c s178).c,.slice g202.a q199.length g202.c,vP b208,vI y215.2,vI y224.2,vI y233.2,vI y243.2,vI y253.2,vI y263.2,vI y273.2,.slice g281.a y280.length g281.c,vG [vI 1000000000]] [] ?_
     refine t_frz [0,1,2,3,4,5] ?_
     obtain ⟨y287,hy287,hm⟩:=bindE hm
     refine t_c [0,4,5] [0,1,2,3,4,5] [1,2,3,5,6,8,9,11,13,15,17,19,21,23] [vB z3,vB z57,vB z88,vB z141,.slice (Gh.mk g167.a g167.c s178).a q179.length (Gh.mk g167.a g167.c s178).c,.slice g202.a q199.length g202.c,vP b208,vI y215.2,vI y224.2,vI y233.2,vI y243.2,vI y253.2,vI y263.2,vI y273.2] (jj (aa:=g281) m _ _ _ hy287) fun g288 => ?_
     refine t_b 8 [1,2,3,5,6,8,9,11,13,15,17,19,21,23,25] [vB z3,vB z57,vB z88,vB z141,.slice (Gh.mk g167.a g167.c s178).a q179.length (Gh.mk g167.a g167.c s178).c,.slice g202.a q199.length g202.c,vP b208,vI y215.2,vI y224.2,vI y233.2,vI y243.2,vI y253.2,vI y263.2,vI y273.2,vI y287.2] [] (t_end (t_sel [2,3,4,5,6] ?_))
     obtain ⟨y294,hy294,hm⟩:=bindE hm
     refine t_r [1,2,3,5,6,8,9,11,13,15,17,19,21,23,25,27] [vB z3,vB z57,vB z88,vB z141,.slice (Gh.mk g167.a g167.c s178).a q179.length (Gh.mk g167.a g167.c s178).c,.slice g202.a q199.length g202.c,vP b208,vI y215.2,vI y224.2,vI y233.2,vI y243.2,vI y253.2,vI y263.2,vI y273.2,vI y287.2,vI y294.2] [kE 2 1,kr fun _ hS => l6 (ez:=Gh.nil) (er:=Gh.nil) (dv:=Gh.nil) (dw:=Gh.nil) (ew:=Gh.nil) (eE:=Gh.nil) m _ _ _ hy294 _ (s0im (s0im (s0im (s0im (s0im (s0im (s0im s0nil (hS.im 3 rfl)) (SlG.nil (M:=F0) (g:=Gh.nil))) (SlG.nil (M:=F0) (g:=Gh.nil))) (SlG.nil (M:=F0) (g:=Gh.nil))) (SlG.nil (M:=F0) (g:=Gh.nil))) (SlG.nil (M:=F0) (g:=Gh.nil))) (SlG.nil (M:=F0) (g:=Gh.nil)))] ?_
     obtain ⟨ho297,hm⟩:=chkE hm
     obtain ⟨ho298,hm⟩:=chkE hm
     obtain ⟨x299,hx299,hm⟩:=letE hm
     obtain ⟨x300,hx300,hm⟩:=letE hm
     obtain ⟨x301,hx301,hm⟩:=letE hm
     obtain ⟨x302,hx302,hm⟩:=letE hm
     obtain ⟨x303,hx303,hm⟩:=letE hm
     obtain ⟨x304,hx304,hm⟩:=letE hm
     obtain ⟨y305,hy305,hm⟩:=bindE hm
     refine t_r [1,2,3,5,6,8,9,11,13,15,17,19,21,23,25,27,29] [vB z3,vB z57,vB z88,vB z141,.slice (Gh.mk g167.a g167.c s178).a q179.length (Gh.mk g167.a g167.c s178).c,.slice g202.a q199.length g202.c,vP b208,vI y215.2,vI y224.2,vI y233.2,vI y243.2,vI y253.2,vI y263.2,vI y273.2,vI y287.2,vI y294.2,vI y305.2] [ki 0 ho297,kj 0 1 ho297,⟨none,fun _ => oka ((Gh.mk g167.a g167.c s178).s ((0 : Int)).toNat 0).a ∧ 0 ≤ (0 : Int) ∧ (0 : Int) < ln ((gi q179 (0 : Int)).bj.aF),fun _ hS => ((cF ((hS.im 0 rfl).el ho297)).oki ho298)⟩,⟨some (.agg ⟨e5 (gi ((gi q179 (0 : Int)).bj.aF) (0 : Int)) (((Gh.mk g167.a g167.c s178).s ((0 : Int)).toNat 0).s ((0 : Int)).toNat)⟩),fun wz => V.atN (ab ((Gh.mk g167.a g167.c s178).s ((0 : Int)).toNat 0).a) (ao ((Gh.mk g167.a g167.c s178).s ((0 : Int)).toNat 0).a + ((0 : Int)).toNat * 12) (e5 (gi ((gi q179 (0 : Int)).bj.aF) (0 : Int)) (((Gh.mk g167.a g167.c s178).s ((0 : Int)).toNat 0).s ((0 : Int)).toNat)) 0 wz,fun _ hS => ((cF ((hS.im 0 rfl).el ho297)).atA ho298 0 rfl)⟩,kr fun _ hS => l6 (ez:=(((Gh.mk g167.a g167.c s178).s ((0 : Int)).toNat 0).s ((0 : Int)).toNat 0)) (er:=(((Gh.mk g167.a g167.c s178).s ((0 : Int)).toNat 0).s ((0 : Int)).toNat 1)) (dv:=(((Gh.mk g167.a g167.c s178).s ((0 : Int)).toNat 0).s ((0 : Int)).toNat 2)) (dw:=(((Gh.mk g167.a g167.c s178).s ((0 : Int)).toNat 0).s ((0 : Int)).toNat 3)) (ew:=(((Gh.mk g167.a g167.c s178).s ((0 : Int)).toNat 0).s ((0 : Int)).toNat 4)) (eE:=(((Gh.mk g167.a g167.c s178).s ((0 : Int)).toNat 0).s ((0 : Int)).toNat 5)) m _ _ _ hy305 _ (s0im (s0im (s0im (s0im (s0im (s0im (s0im s0nil (hS.im 3 rfl)) (have k:=jV ((cF ((hS.im 0 rfl).el ho297)).el ho298); k)) (have k:=fC ((cF ((hS.im 0 rfl).el ho297)).el ho298); k)) (have k:=fx ((cF ((hS.im 0 rfl).el ho297)).el ho298); k)) (have k:=fA ((cF ((hS.im 0 rfl).el ho297)).el ho298); k)) (have k:=ng ((cF ((hS.im 0 rfl).el ho297)).el ho298); k)) (have k:=jW ((cF ((hS.im 0 rfl).el ho297)).el ho298); k))] ?_ (he:=by subst hx299 hx300 hx301 hx302 hx303 hx304; kernel_rfl)
     obtain ⟨x308,hx308,hm⟩:=letE hm
     obtain ⟨x309,hx309,hm⟩:=letE hm
     obtain ⟨x310,hx310,hm⟩:=letE hm
     obtain ⟨x311,hx311,hm⟩:=letE hm
     obtain ⟨x312,hx312,hm⟩:=letE hm
     obtain ⟨x313,hx313,hm⟩:=letE hm
     obtain ⟨y314,hy314,hm⟩:=bindE hm
     refine t_dr [1,2,3,5,6,8,11,13,15,17,19,21,23,25,27,29,30,31] [vB z3,vB z57,vB z88,vB z141,.slice (Gh.mk g167.a g167.c s178).a q179.length (Gh.mk g167.a g167.c s178).c,.slice g202.a q199.length g202.c,vI y215.2,vI y224.2,vI y233.2,vI y243.2,vI y253.2,vI y263.2,vI y273.2,vI y287.2,vI y294.2,vI y305.2,vB y314.1,vI y314.2] [ki 0 ho297,kj 0 1 ho297,⟨none,fun _ => oka ((Gh.mk g167.a g167.c s178).s ((0 : Int)).toNat 0).a ∧ 0 ≤ (0 : Int) ∧ (0 : Int) < ln ((gi q179 (0 : Int)).bj.aF),fun _ hS => ((cF ((hS.im 0 rfl).el ho297)).oki ho298)⟩,⟨some (.agg ⟨e5 (gi ((gi q179 (0 : Int)).bj.aF) (0 : Int)) (((Gh.mk g167.a g167.c s178).s ((0 : Int)).toNat 0).s ((0 : Int)).toNat)⟩),fun wz => V.atN (ab ((Gh.mk g167.a g167.c s178).s ((0 : Int)).toNat 0).a) (ao ((Gh.mk g167.a g167.c s178).s ((0 : Int)).toNat 0).a + ((0 : Int)).toNat * 12) (e5 (gi ((gi q179 (0 : Int)).bj.aF) (0 : Int)) (((Gh.mk g167.a g167.c s178).s ((0 : Int)).toNat 0).s ((0 : Int)).toNat)) 0 wz,fun _ hS => ((cF ((hS.im 0 rfl).el ho297)).atA ho298 0 rfl)⟩,kE 2 1,kr fun _ hS => l6 (ez:=(((Gh.mk g167.a g167.c s178).s ((0 : Int)).toNat 0).s ((0 : Int)).toNat 0)) (er:=(((Gh.mk g167.a g167.c s178).s ((0 : Int)).toNat 0).s ((0 : Int)).toNat 1)) (dv:=(((Gh.mk g167.a g167.c s178).s ((0 : Int)).toNat 0).s ((0 : Int)).toNat 2)) (dw:=(((Gh.mk g167.a g167.c s178).s ((0 : Int)).toNat 0).s ((0 : Int)).toNat 3)) (ew:=(((Gh.mk g167.a g167.c s178).s ((0 : Int)).toNat 0).s ((0 : Int)).toNat 4)) (eE:=(((Gh.mk g167.a g167.c s178).s ((0 : Int)).toNat 0).s ((0 : Int)).toNat 5)) m _ _ _ hy314 _ (s0im (s0im (s0im (s0im (s0im (s0im (s0im s0nil (hS.im 3 rfl)) (have k:=jV ((cF ((hS.im 0 rfl).el ho297)).el ho298); k)) (have k:=fC ((cF ((hS.im 0 rfl).el ho297)).el ho298); k)) (have k:=fx ((cF ((hS.im 0 rfl).el ho297)).el ho298); k)) (have k:=fA ((cF ((hS.im 0 rfl).el ho297)).el ho298); k)) (have k:=ng ((cF ((hS.im 0 rfl).el ho297)).el ho298); k)) (have k:=jW ((cF ((hS.im 0 rfl).el ho297)).el ho298); k))] ?_ (he:=by subst hx308 hx309 hx310 hx311 hx312 hx313; kernel_rfl)
     refine t_sel [0,1,3,4] ?_
     obtain ⟨wI,hz,hm⟩:=bindE hm
     refine t_cut [0] [vB wI] [eI bx q179 (Gh.mk g167.a g167.c s178),eI bx q199 g202,gE4,Ent.tab 0 (Lib.pow10Tab.map fun z => Value.int .u64 z)] ?_ ?_
     ·replace hm:=hz
      refine t_start ?_
      obtain ⟨y318,hy318,hm⟩:=bindE hm
      obtain ⟨x319,hx319,hm⟩:=letE hm
      obtain ⟨x320,hx320,hm⟩:=letE hm
      obtain ⟨x321,hx321,hm⟩:=letE hm
      obtain ⟨x322,hx322,hm⟩:=letE hm
      obtain ⟨x323,hx323,hm⟩:=letE hm
      obtain ⟨x324,hx324,hm⟩:=letE hm
      obtain ⟨x325,hx325,hm⟩:=letE hm
      obtain ⟨y326,hy326,hm⟩:=bindE hm
      obtain ⟨x327,hx327,hm⟩:=letE hm
      obtain ⟨y328,hy328,hm⟩:=bindE hm
      obtain ⟨x329,hx329,hm⟩:=letE hm
      refine t_b 73 [243] [vB x329] [kgr (true = true ∧ True) fun _ hS hg => sJ m _ hy318 _ (s0im (s0tab s0nil (hS.at 3 rfl)) (hS.im 2 rfl)),kgr ((cond x325 y314.1 false) = true ∧ True) fun _ hS hg => gw (aa:=g202) m _ _ (bT (hg.1) hy326) _ (s0im s0nil (hS.im 1 rfl)),kgr (x327 = true ∧ True) fun _ hS hg => gw (aa:=(Gh.mk g167.a g167.c s178)) m _ _ (bT (hg.1) hy328) _ (s0im s0nil (hS.im 0 rfl))] ?_ (he:=by subst hx319 hx320 hx321 hx322 hx323 hx324 hx325 hx327 hx329; kernel_rfl)
      cases x329
      case false =>
       replace hm:=bF rfl hm
       intro _ _ H331 hS
       refine m_skipG 243 [244,243] (fS [244,243] [undef,vF]) H331 rfl rfl rfl rfl rfl rfl fun _ H341 => ?_
       refine m_skipG 243 [245,243] (fS [245,243] [undef,vF]) H341 rfl rfl rfl rfl rfl rfl fun _ H342 => ?_
       refine m_skipG 243 [246,243] (fS [246,243] [undef,vF]) H342 rfl rfl rfl rfl rfl rfl fun _ H343 => ?_
       refine t_in H343 hS ?_
       refine t_b 78 [0] [vF] [] (t_end ?_)
       obtain rfl:=someE hm
       exact t_e [0]
      replace hm:=bT rfl hm
      obtain ⟨ho332,hm⟩:=chkE hm
      obtain ⟨q333,hq333,hm⟩:=letE hm
      intro _ _ H331 hS
      have hd:=hS.hand [] [0,1,2,3] rfl rfl
      refine m_stpG 243 [244,243] [(243,[],vT)] H331 rfl rfl rfl rfl (o_make (T:=bx) (E:=30) (zv:=vG [vU 0,vO]) ((bM.mk 0 (hZ.mk [])) : bM) H331 hd rfl rfl (by kernel_rfl) (by kernel_rfl) rfl rfl (fun _ _ => ge SlG.nil) ho332) (fun _ => rfl) fun _ _ v H335 hq => ?_
      obtain ⟨g336,rfl,hq⟩:=hq
      rw [← hq333] at hq
      rw [← hq333] at H335
      replace hS:=hS.join [] [0,1,2,3] rfl rfl hq
      obtain ⟨y338,hy338,hm⟩:=bindE hm
      refine t_in H335 hS ?_
      refine t_b 78 [0] [vB (y338 == 8)] [kgr (true = true ∧ True) fun _ hS hg => gw (aa:=g336) m _ _ hy338 _ (s0im s0nil (hS.osl 0 rfl))] (t_end (t_sel [1,2,3,4] ?_))
      obtain rfl:=someE hm
      exact t_e [0]
     ·refine t_sel [2,3] (t_ret ?_)
      obtain rfl:=someE hm
      exact t_n [] rs1
theorem vg  (m : Nat)  (r : Bool) (hm : law28_LayersNames m = some r) (w : World) (hL : S0 F0 [gE4,Ent.tab 0 (Lib.pow10Tab.map fun z => Value.int .u64 z)] w ∧ fpl [gE4,Ent.tab 0 (Lib.pow10Tab.map fun z => Value.int .u64 z)] = []) : RetB Tryz.prog 3 ⟨[]⟩ (vB r) w:=retB_of hL (Tryz.call3 _) (fun w' h => law28_LayersNames_w F0 m    r hm w' h)

end Go.Proofs.YtebkjhhhdgbloaaGreatDoor
