/-
  What the Go functions compute, as Lean functions, and that a call returns just that. Printed by a program.
-/
import Derived.Test.YtebkjhhhdgbloaaGreatDoorRows
import Derived.Test.YtebkjhhhdgbloaaGreatDoorX
import Derived.Test.YtebkjhhhdgbloaaGreatDoorMP
import Derived.Test.YtebkjhhhdgbloaaGreatDoorCO
import Derived.Test.YtebkjhhhdgbloaaGreatDoorAF
import Derived.Test.YtebkjhhhdgbloaaGreatDoorT
import Derived.Test.YtebkjhhhdgbloaaGreatDoorMI
import Derived.Test.YtebkjhhhdgbloaaGreatDoorFM
import Derived.Test.YtebkjhhhdgbloaaGreatDoorGR
import Derived.Test.YtebkjhhhdgbloaaGreatDoorI
import Derived.Test.YtebkjhhhdgbloaaGreatDoorL28b
set_option linter.unusedVariables false
set_option maxRecDepth 20000
set_option maxHeartbeats 4000000
namespace Go.Proofs.YtebkjhhhdgbloaaGreatDoor
open Go.V Go.RowKit

theorem vl (m : Nat) : ∀ (k : Nat),vv (kV m  k):=by
 intro k
 induction k with
 | zero => intro af M v_ r hm; exact noneE hm
 | succ k ih =>
  intro af M v_ r hm w hS
  rw [kV] at hm
  have hS0 : SH M (fpl [eI a6 v_ af]) w [eI a6 v_ af] w:=hS
  generalize hX : fpl [eI a6 v_ af] = X at hS0 ⊢
  clear hS hX
  have hS:=hS0
  clear hS0
  refine calls_entryP Tryz.func153 rfl Tryz.ntmps153 rfl fun _ H => ?_
  refine t_in H hS ?_
  refine t_r [0] [.slice af.a v_.length af.c] [] (t_starts ?_)
  refine t_b 1 [4] [.slice af.a v_.length af.c] [] ?_
  obtain ⟨y5,hy5,hm⟩:=bindE hm
  refine t_c [0] [0] [] [] (iD (g_s:=af) _ _ hy5) fun g6 => ?_
  refine t_b 3 [0] [.slice g6.a y5.length g6.c] [] (t_end (t_sel [0] ?_))
  obtain ⟨z12,hz,hm⟩:=bindE hm
  refine t_cutg [0] (fun (g41 : Gh) => [.slice g41.a z12.length g41.c]) (fun g41 => [eO 137 a6 z12 g41]) ?_ ?_
  ·replace hm:=hz
   refine t_r [0,7,8] [.slice g6.a y5.length g6.c,vI (ln y5),vI 0] [] (t_block ?_)
   intro _ _ H14 hS
   refine w_loop (fun kk a' w' => ∃ (v15 : List ae) (v17 : Int) (g16 : Gh),lE m y5 (kV m k) kk v15 v17 = some _ ∧ Fr 23 (fS [7,0,8] [vI (ln y5),.slice g16.a v15.length g16.c,vI v17]) a' ∧ SH M X w [eO 137 a6 v15 g16] w') ⟨_,y5,0,g6,hm,FrG.keep (ks:=[7,0,8]) H14 (by kernel_rfl),hS⟩ ?_
   clear hm H14 hS
   rintro kk _ _ ⟨v15,v17,g16,hm,H,hS⟩
   cases kk with
   | zero => exact noneE hm
   | succ kk =>
    rw [lE] at hm
    refine t_in H hS ?_
    refine t_r [0,7,8,9] [.slice g16.a v15.length g16.c,vI (ln y5),vI v17,vB (decide (v17 < (ln y5)))] [] (t_seq ?_)
    refine t_im hm (fun hm => ?_) (fun hm => ?c39)
    case c39 =>
     refine t_exit ?_
     obtain rfl:=someE hm
     exact t_eg g16 [0]
    refine t_skip (t_seq (t_block ?_))
    refine t_r [0,3,7,8] [.slice g16.a v15.length g16.c,vI v17,vI (ln y5),vI v17] [] (t_start ?_)
    obtain ⟨ho22,hm⟩:=chkE hm
    refine t_b 7 [0,7,8,11,12,17] [.slice g16.a v15.length g16.c,vI (ln y5),vI v17,.slice g16.a v15.length g16.c,vI v17,.slice (g16.s (v17).toNat 0).a (((gi v15 v17).a8).length) (g16.s (v17).toNat 0).c] [kI 0 ho22,kJ 0 5 ho22] ?_
    intro _ _ H24 hS
    replace hS:=hS.addIm (dX ((hS.ow 0 rfl).el ho22))
    obtain ⟨y26,hy26,hm⟩:=bindE hm
    refine t_in H24 hS ?_
    refine t_m [0] [0,1] [0,7,8,11,12] [.slice g16.a v15.length g16.c,vI (ln y5),vI v17,.slice g16.a v15.length g16.c,vI v17] (fun _ _ H24 hd => o_callx H24 rfl rfl (⟨Tryz.call153 _,ih ((g16.s (v17).toNat 0)) _ _ _ hy26 _ hd⟩ : DoesX _ _ _ _ _)) fun g27 => ?_
    refine t_b 10 [0,7,8,18,20] [.slice g16.a v15.length g16.c,vI (ln y5),vI v17,.slice g27.a y26.length g27.c,.pointer (some ⟨ab g16.a,ao g16.a + (v17).toNat * 6 + 5,none⟩)] [kI 2 ho22] ?_
    refine t_frz [0,1,2] ?_
    intro _ _ H32 hS
    have hd:=hS.hand [2,0] [0,1] rfl rfl
    refine m_stp0 [0,7,8] (fS [0,7,8] [.slice g16.a v15.length g16.c,vI (ln y5),vI v17]) H32 rfl rfl rfl (o_estore (T:=a6) (g:=g16) (q:=v15) (ix:=v17) (off:=5) (ae.mk ((gi v15 v17).ax) y26) (gL [g27]) H32 hd rfl rfl rfl rfl (by kernel_rfl) rfl rfl ho22 rfl (nB (hd.im 1 rfl)) rfl) rfl fun _ _ H34 hq => ?_
    obtain ⟨_,hq⟩:=hq
    obtain ⟨s35,hq⟩:=hq
    obtain ⟨q36,hq36,hm⟩:=letE hm
    rw [← hq36] at hq
    have hn : v15.length = q36.length:=by rw [hq36,setl_len]
    first | (unfold vL at H34; rw [hn] at H34) | rw [hn] at H34 | skip
    first | (unfold vL at hS; rw [hn] at hS) | rw [hn] at hS | skip
    clear hn
    replace hS:=hS.join [2,0] [0,1] rfl rfl hq
    refine t_in H34 hS (t_end (t_sel [0] ?_))
    refine t_w [0,7,8] [.slice (Gh.mk g16.a g16.c s35).a q36.length (Gh.mk g16.a g16.c s35).c,vI (ln y5),vI (w64 (v17 + 1))] [] ?_
    exact fun _ _ H38 hS => ⟨_,Nat.lt_succ_self _,q36,w64 (v17 + 1),(Gh.mk g16.a g16.c s35),hm,FrG.keep (ks:=[7,0,8]) H38 (by kernel_rfl),hS⟩
  ·intro g41
   refine t_r [2] [.slice g41.a z12.length g41.c] [] (t_ret ?_)
   obtain rfl:=someE hm
   exact t_g g41 [0] rs1
def tV (m : Nat) (v_ : List ae) : Option (List ae):=kV m  m v_
theorem uk {af : Gh} (m : Nat) (v_ : List ae) (r : List ae) (hm : tV m v_ = some r) (M : Av) (w : World) (hS : S0 M [eI a6 v_ af] w) : DoesX Tryz.prog 153 ⟨[vL af v_]⟩ w (fun v w' => ∃ (aA : Gh),v = vL aA r ∧ SH M (fpl [eI a6 v_ af]) w [eO 137 a6 r aA] w'):=⟨Tryz.call153 _,vl m   m af M v_ r hm w hS⟩

def ny (m : Nat) (v_ : List ae) : Nat → Int → Option (Int)
  | 0,_ => none
  | kk + 1,v16 =>
    Option.bind (cond (decide (v16 < (ln v_))) (mm v16 v_) (some default)) fun y17 =>
    cond (cond (decide (v16 < (ln v_))) y17 false) (
    none) (
    some v16)
def nF (m : Nat) (v_ : List ae) (z15 : Int) : Nat → Int → Option (Int)
  | 0,_ => none
  | kk + 1,v23 =>
    Option.bind (cond (decide (z15 < v23)) (mm (w64 (v23 - 1)) v_) (some default)) fun y24 =>
    cond (cond (decide (z15 < v23)) y24 false) (
    none) (
    some v23)
def qO (m : Nat) (v_ : List ae) : Option ((List ae) × Int) :=
  Option.bind (k8 m v_) fun y6 =>
  cond (y6 != 0) (
  none) (
  Option.bind (
  ny m v_ m 0) fun (z15 : Int) =>
  Option.bind (
  nF m v_ z15 m (ln v_)) fun (z22 : Int) =>
  chk (0 ≤ z15 ∧ z15 ≤ z22 ∧ z22 ≤ ln v_) <|
  lt (subl v_ z15 z22) fun q32 =>
  Option.bind (tV m q32) fun y37 =>
  some (y37,0))
theorem uC {af : Gh} (m : Nat) (v_ : List ae) (r : (List ae) × Int) (hm : qO m v_ = some r) : DoesM Tryz.prog 94 ⟨[vL af v_]⟩ [eI a6 v_ af] (fun (aA : Gh) => vW [vL aA r.1,vI r.2]) (fun aA => [eO 137 a6 r.1 aA]):=by
 rw [qO] at hm
 refine f_mem (Tryz.call94 _) Tryz.func94 Tryz.ntmps94 fun M X w => (t_starts ?_)
 refine t_m [] [0] [] [] (fun _ _ H hd => o_box [vL af v_] H hd rfl rfl) fun b1 => ?_
 refine t_b 3 [1] [vP b1] [] (t_end (t_seq ?_))
 obtain ⟨y6,hy6,hm⟩:=bindE hm
 refine t_r [1,4] [vP b1,vI y6] [kb 0 0,kr fun _ hS => kf (af:=af) m _ _ hy6 _ (s0im s0nil (hS.im 1 rfl))] ?_
 refine t_r [1,4,11] [vP b1,vI y6,vB (y6 != 0)] [] ?_
 refine t_i2 hm (fun hm => ?_)
 refine t_skip ?_
 refine t_r [1,5] [vP b1,.func (.func 152) ⟨[]⟩ ⟨[vP b1]⟩] [] ?_
 refine t_dr [1,5,6,7] [vP b1,.func (.func 152) ⟨[]⟩ ⟨[vP b1]⟩,vI 0,vI (ln v_)] [kb 0 0] ?_
 obtain ⟨z15,hz,hm⟩:=bindE hm
 refine t_cut [1,5,7,6] [vP b1,.func (.func 152) ⟨[]⟩ ⟨[vP b1]⟩,vI (ln v_),vI z15] [eB b1 [vL af v_],eI a6 v_ af] ?_ ?_
 ·replace hm:=hz
  refine t_block ?_
  intro _ _ H14 hS
  refine w_loop (fun kk a' w' => ∃ (v16 : Int),ny m v_ kk v16 = some _ ∧ Fr 43 (fS [1,5,7,6] [vP b1,.func (.func 152) ⟨[]⟩ ⟨[vP b1]⟩,vI (ln v_),vI v16]) a' ∧ SH M X w [eB b1 [vL af v_],eI a6 v_ af] w') ⟨_,0,hm,FrG.keep (ks:=[1,5,7,6]) H14 (by kernel_rfl),hS⟩ ?_
  clear hm H14 hS
  rintro kk _ _ ⟨v16,hm,H,hS⟩
  cases kk with
  | zero => exact noneE hm
  | succ kk =>
   rw [ny] at hm
   refine t_in H hS (t_seq ?_)
   obtain ⟨y17,hy17,hm⟩:=bindE hm
   refine t_r [1,5,6,7,23] [vP b1,.func (.func 152) ⟨[]⟩ ⟨[vP b1]⟩,vI v16,vI (ln v_),vB (cond (decide (v16 < (ln v_))) y17 false)] [kgr ((decide (v16 < (ln v_))) = true ∧ True) fun _ hS hg => oq (aW:=b1) (wg:=af) _ _ _ (bT (hg.1) hy17) _ (s0ro (s0im s0nil (hS.im 1 rfl)) (hS.bk 0 rfl))] ?_
   refine t_im hm (fun hm => ?_) (fun hm => ?c20)
   case c20 =>
    refine t_exit ?_
    obtain rfl:=someE hm
    exact t_e [1,5,7,6]
   refine t_skip (t_block ?_)
   intro _ _ H19 hS
   exact noneE hm
 ·obtain ⟨z22,hz,hm⟩:=bindE hm
  refine t_cut [1,6,7] [vP b1,vI z15,vI z22] [eB b1 [vL af v_],eI a6 v_ af] ?_ ?_
  ·replace hm:=hz
   refine t_block ?_
   intro _ _ H hS
   refine w_loop (fun kk a' w' => ∃ (v23 : Int),nF m v_ z15 kk v23 = some _ ∧ Fr 43 (fS [1,5,6,7] [vP b1,.func (.func 152) ⟨[]⟩ ⟨[vP b1]⟩,vI z15,vI v23]) a' ∧ SH M X w [eB b1 [vL af v_],eI a6 v_ af] w') ⟨_,ln v_,hm,FrG.keep (ks:=[1,5,6,7]) H (by kernel_rfl),hS⟩ ?_
   clear hm H hS
   rintro kk _ _ ⟨v23,hm,H,hS⟩
   cases kk with
   | zero => exact noneE hm
   | succ kk =>
    rw [nF] at hm
    refine t_in H hS (t_seq ?_)
    obtain ⟨y24,hy24,hm⟩:=bindE hm
    refine t_r [1,5,6,7,34] [vP b1,.func (.func 152) ⟨[]⟩ ⟨[vP b1]⟩,vI z15,vI v23,vB (cond (decide (z15 < v23)) y24 false)] [kgr ((decide (z15 < v23)) = true ∧ True) fun _ hS hg => oq (aW:=b1) (wg:=af) _ _ _ (bT (hg.1) hy24) _ (s0ro (s0im s0nil (hS.im 1 rfl)) (hS.bk 0 rfl))] ?_
    refine t_im hm (fun hm => ?_) (fun hm => ?c27)
    case c27 =>
     refine t_exit ?_
     obtain rfl:=someE hm
     exact t_e [1,6,7]
    refine t_skip (t_block ?_)
    intro _ _ H26 hS
    exact noneE hm
  ·refine t_starts ?_
   refine t_b 4 [37,38,39,40] [vL af v_,vI z15,vI z22,vI z22] [kb 0 0] ?_
   obtain ⟨ho31,hm⟩:=chkE hm
   obtain ⟨q32,hq32,hm⟩:=letE hm
   refine t_m [1] [0,1] [] [] (fun _ _ H30 hd => o_subG (T:=a6) (E:=137) (g:=af) (q:=v_) z15 z22 H30 hd (hd.im 0 rfl) rfl rfl rfl rfl rfl rfl rfl (by kernel_rfl) (by kernel_rfl) ho31) fun g35 => ?_
   rw [← hq32]
   obtain ⟨y37,hy37,hm⟩:=bindE hm
   refine t_c [0] [0,1,2,3] [] [] (uk (af:=(Gh.mk g35.a q32.length g35.s)) m _ _ hy37) fun g38 => ?_
   refine t_b 8 [2,3] [vL g38 y37,vI 0] [] (t_end (t_sel [0] (t_ret ?_)))
   obtain rfl:=someE hm
   exact t_g g38 [0] rs2

def u4 (gf : ay → Option (List bD)) : Prop:=∀ (ac : Gh) (a7 : Gh) (M : Av) (c_ : ay) (r : List bD),gf c_ = some r → ∀ w,S0 M [eI a6 c_.az.Value ac,eI ak c_.a8 a7] w → Calls Tryz.prog 54 ⟨[.agg ⟨e4 c_ (gL [ac,a7])⟩]⟩ w (fun e w' => ∃ v,e = .returned v ∧ ∃ (aA : Gh),v = vL aA r ∧ SH M (fpl [eI a6 c_.az.Value ac,eI ak c_.a8 a7]) w [eO 36 bf r aA] w')
def ku (m : Nat) (c_ : ay) (oD : ay → Option (List bD)) : Nat → (List bD) → Int → Option (List bD)
  | 0,_,_ => none
  | kk + 1,v40,v42 =>
    cond (decide (v42 < (ln c_.a8))) (
    chk (0 ≤ v42 ∧ v42 < ln c_.a8) <|
    Option.bind (oD (gi c_.a8 v42)) fun y57 =>
    chk (ln v40 + ln y57 ≤ 137438953472) <|
    lt (v40 ++ y57) fun q63 =>
    ku m c_ oD kk q63 (w64 (v42 + 1))) (
    some v40)
def jx (m : Nat) : Nat → ay → Option (List bD)
  | 0,_ => none
  | k + 1,c_ =>
    cond (c_.aj == 7) (
    Option.bind (qO m c_.az.Value) fun y17 =>
    some ([(bD.mk c_.az.bA y17.1 c_.az.bK)] : List bD)) (
    Option.bind (
    ku m c_ (jx m k) m ([] : List bD) 0) fun (z36 : List bD) =>
    some z36)
theorem uP (m : Nat) : ∀ (k : Nat),u4 (jx m  k):=by
 intro k
 induction k with
 | zero => intro ac a7 M c_ r hm; exact noneE hm
 | succ k ih =>
  intro ac a7 M c_ r hm w hS
  rw [jx] at hm
  have hS0 : SH M (fpl [eI a6 c_.az.Value ac,eI ak c_.a8 a7]) w [eI a6 c_.az.Value ac,eI ak c_.a8 a7] w:=hS
  generalize hX : fpl [eI a6 c_.az.Value ac,eI ak c_.a8 a7] = X at hS0 ⊢
  clear hS hX
  have hS:=hS0
  clear hS0
  refine calls_entryP Tryz.func54 rfl Tryz.ntmps54 rfl fun _ H => ?_
  refine t_in H hS (t_starts ?_)
  refine t_m [] [0,1] [] [] (fun _ _ H hd => o_box (e4 c_ (gL [ac,a7])) H hd rfl rfl) fun b1 => ?_
  refine t_b 2 [1] [vP b1] [] (t_end (t_seq ?_))
  refine t_r [1,9] [vP b1,vB (c_.aj == 7)] [kb 0 0] ?_
  refine t_im hm (fun hm => ?c78) (fun hm => ?_)
  case c78 =>
   refine t_starts ?_
   refine t_b 2 [11] [.agg ⟨e11 c_.az (gL [ac])⟩] [⟨some (.agg ⟨e11 c_.az (gL [ac])⟩),fun wz => V.atN b1 3 (e11 c_.az (gL [ac])) 0 wz,fun _ hS => ((hS.bk 0 rfl).atD rfl)⟩] ?_
   refine t_m [] [0,1,2] [11] [.agg ⟨e11 c_.az (gL [ac])⟩] (fun _ _ H9 hd => o_alloc [vN,vO,vF] (z:=vG [vN,vO,vF]) hd (by kernel_rfl) rfl) fun b10 => ?_
   refine t_m0 [0] [1,2,3] [3] [vP b10] (fun _ _ H12 hd => o_store (e11 c_.az (gL [ac])) H12 hd rfl rfl (by kernel_rfl) rfl rfl rfl) (t_end (t_sel [0,2] (t_starts ?_)))
   refine t_b 2 [3,14] [vP b10,vL ac c_.az.Value] [kb 0 1] ?_
   obtain ⟨y17,hy17,hm⟩:=bindE hm
   refine t_c [1] [0,1] [3] [vP b10] (uC (af:=ac) m _ _ hy17) fun g18 => ?_
   refine t_b 7 [3,16,18] [vP b10,vL g18 y17.1,vA b10 1] [] ?_
   refine t_m0 [1] [0,2] [3] [vP b10] (fun _ _ H23 hd => o_store [vS c_.az.bA,vL g18 y17.1,vB c_.az.bK] H23 hd rfl rfl (by kernel_rfl) rfl rfl rfl) (t_end (t_sel [0,1] (t_starts ?_)))
   refine t_b 1 [19] [vG [vS c_.az.bA,vL g18 y17.1,vB c_.az.bK]] [kE 0 3] ?_
   refine t_frz [1,0] ?_
   refine t_m [0] [0,1] [] [] (fun _ _ H27 hd => o_li (T:=bf) (E:=36) (zv:=vG [vN,vO,vF]) [vS c_.az.bA,vL g18 y17.1,vB c_.az.bK] ([(bD.mk c_.az.bA y17.1 c_.az.bK)] : List bD) [gL [g18]] H27 hd rfl (InnL.cons (wh (hd.im 0 rfl)) InnL.nil)) fun g28 => ?_
   refine t_b 3 [2] [vK g28 1] [] (t_end (t_sel [0] (t_ret ?_)))
   obtain rfl:=someE hm
   exact t_g g28 [0] rs1
  refine t_skip ?_
  refine t_r [1,4] [vP b1,vO] [] ?_
  obtain ⟨z36,hz,hm⟩:=bindE hm
  refine t_cutg [4] (fun (g73 : Gh) => [vL g73 z36]) (fun g73 => [eO 36 bf z36 g73,eB b1 (e4 c_ (gL [ac,a7])),eI a6 c_.az.Value ac,eI ak c_.a8 a7]) ?_ ?_
  ·replace hm:=hz
   refine t_r [4,22,23,24] [vO,vL a7 c_.a8,vI (ln c_.a8),vI 0] [kb 0 6] (t_block ?_)
   refine t_nil 36 bf ?_
   intro _ _ H38 hS
   refine w_loop (fun kk a' w' => ∃ (v40 : List bD) (v42 : Int) (g41 : Gh),ku m c_ (jx m k) kk v40 v42 = some _ ∧ Fr 34 (fS [22,23,4,24] [vL a7 c_.a8,vI (ln c_.a8),vL g41 v40,vI v42]) a' ∧ SH M X w [eO 36 bf v40 g41,eB b1 (e4 c_ (gL [ac,a7])),eI a6 c_.az.Value ac,eI ak c_.a8 a7] w') ⟨_,([] : List bD),0,Gh.nil,hm,FrG.keep (ks:=[22,23,4,24]) H38 (by kernel_rfl),hS⟩ ?_
   clear hm H38 hS
   rintro kk _ _ ⟨v40,v42,g41,hm,H,hS⟩
   cases kk with
   | zero => exact noneE hm
   | succ kk =>
    rw [ku] at hm
    refine t_in H hS ?_
    refine t_r [4,22,23,24,25] [vL g41 v40,vL a7 c_.a8,vI (ln c_.a8),vI v42,vB (decide (v42 < (ln c_.a8)))] [] (t_seq ?_)
    refine t_im hm (fun hm => ?_) (fun hm => ?c71)
    case c71 =>
     refine t_exit ?_
     obtain rfl:=someE hm
     exact t_eg g41 [4]
    refine t_skip (t_seq (t_block (t_starts ?_)))
    obtain ⟨ho45,hm⟩:=chkE hm
    refine t_b 2 [4,22,23,24,27] [vL g41 v40,vL a7 c_.a8,vI (ln c_.a8),vI v42,.agg ⟨e4 (gi c_.a8 v42) (a7.s (v42).toNat)⟩] [ki 3 ho45,⟨some (.agg ⟨e4 (gi c_.a8 v42) (a7.s (v42).toNat)⟩),fun wz => V.atN (ab a7.a) (ao a7.a + (v42).toNat * 7) (e4 (gi c_.a8 v42) (a7.s (v42).toNat)) 0 wz,fun _ hS => ((hS.im 3 rfl).atA ho45 0 rfl)⟩] ?_
    refine t_m [] [0,1,2,3] [4,22,23,24,27] [vL g41 v40,vL a7 c_.a8,vI (ln c_.a8),vI v42,.agg ⟨e4 (gi c_.a8 v42) (a7.s (v42).toNat)⟩] (fun _ _ H47 hd => o_alloc [vU 0,vN,vI 0,vN,vO,vF,vO] (z:=vG [vU 0,vN,vI 0,vN,vO,vF,vO]) hd (by kernel_rfl) rfl) fun b48 => ?_
    refine t_m0 [0] [1,2,3,4] [4,6,22,23,24] [vL g41 v40,vP b48,vL a7 c_.a8,vI (ln c_.a8),vI v42] (fun _ _ H50 hd => o_store (e4 (gi c_.a8 v42) (a7.s (v42).toNat)) H50 hd rfl rfl (by kernel_rfl) rfl rfl rfl) (t_end (t_start ?_))
    refine t_b 2 [22,23,24,28,29] [vL a7 c_.a8,vI (ln c_.a8),vI v42,vL g41 v40,.agg ⟨e4 (gi c_.a8 v42) (a7.s (v42).toNat)⟩] [kE 0 7] ?_
    intro _ _ H54 hS
    replace hS:=hS.addIm (eX ((hS.im 4 rfl).el ho45))
    replace hS:=hS.addIm (eY ((hS.im 5 rfl).el ho45))
    obtain ⟨y57,hy57,hm⟩:=bindE hm
    refine t_in H54 hS ?_
    refine t_m [1,0] [0,1,2,3,4,5,6] [22,23,24,28] [vL a7 c_.a8,vI (ln c_.a8),vI v42,vL g41 v40] (fun _ _ H54 hd => o_callx H54 rfl rfl (⟨Tryz.call54 _,ih ((a7.s (v42).toNat 0)) ((a7.s (v42).toNat 1)) _ _ _ hy57 _ hd⟩ : DoesX _ _ _ _ _)) fun g58 => ?_
    obtain ⟨ho62,hm⟩:=chkE hm
    obtain ⟨q63,hq63,hm⟩:=letE hm
    refine t_m [4,0] [1,2,3,5,6,7] [22,23,24] [vL a7 c_.a8,vI (ln c_.a8),vI v42] (fun _ _ H61 hd => o_app2 (T:=bf) (zv:=vG [vN,vO,vF]) (g1:=g41) (g2:=g58) (l1:=v40) (l2:=y57) q63 hq63.symm H61 hd rfl rfl rfl rfl rfl rfl rfl (by kernel_rfl) (by kernel_rfl) rfl rfl ho62) fun g66 => ?_
    refine t_b 5 [4,22,23,24] [vL g66 q63,vL a7 c_.a8,vI (ln c_.a8),vI v42] [] (t_end (t_sel [0,5,6,7] ?_))
    refine t_w [4,22,23,24] [vL g66 q63,vL a7 c_.a8,vI (ln c_.a8),vI (w64 (v42 + 1))] [] ?_
    exact fun _ _ H70 hS => ⟨_,Nat.lt_succ_self _,q63,w64 (v42 + 1),g66,hm,FrG.keep (ks:=[22,23,4,24]) H70 (by kernel_rfl),hS⟩
  ·intro g73
   refine t_sel [0] ?_
   refine t_r [2] [vL g73 z36] [] (t_ret ?_)
   obtain rfl:=someE hm
   exact t_g g73 [0] rs1
def pT (m : Nat) (c_ : ay) : Option (List bD):=jx m  m c_
theorem pe {ac : Gh} {a7 : Gh} (m : Nat) (c_ : ay) (r : List bD) (hm : pT m c_ = some r) (M : Av) (w : World) (hS : S0 M [eI a6 c_.az.Value ac,eI ak c_.a8 a7] w) : DoesX Tryz.prog 54 ⟨[.agg ⟨e4 c_ (gL [ac,a7])⟩]⟩ w (fun v w' => ∃ (aA : Gh),v = vL aA r ∧ SH M (fpl [eI a6 c_.az.Value ac,eI ak c_.a8 a7]) w [eO 36 bf r aA] w'):=⟨Tryz.call54 _,uP m   m ac a7 M c_ r hm w hS⟩

def pX (m : Nat) (c_ : ay) : Option ((List bD) × Int) :=
  Option.bind (fk m c_) fun y6 =>
  cond (y6 != 0) (
  none) (
  Option.bind (pT m c_) fun y13 =>
  some (y13,0))
theorem sZ {ac : Gh} {a7 : Gh} (m : Nat) (c_ : ay) (r : (List bD) × Int) (hm : pX m c_ = some r) : DoesM Tryz.prog 38 ⟨[.agg ⟨e4 c_ (gL [ac,a7])⟩]⟩ [eI a6 c_.az.Value ac,eI ak c_.a8 a7] (fun (aA : Gh) => vW [vL aA r.1,vI r.2]) (fun aA => [eO 36 bf r.1 aA]):=by
 rw [pX] at hm
 refine f_mem (Tryz.call38 _) Tryz.func38 Tryz.ntmps38 fun M X w => (t_starts ?_)
 refine t_m [] [0,1] [] [] (fun _ _ H hd => o_box (e4 c_ (gL [ac,a7])) H hd rfl rfl) fun b1 => ?_
 refine t_b 3 [1] [vP b1] [] (t_end (t_seq ?_))
 obtain ⟨y6,hy6,hm⟩:=bindE hm
 refine t_r [1,4] [vP b1,vI y6] [kE 0 7,kr fun _ hS => gJ (ac:=ac) (a7:=a7) m _ _ hy6 _ (s0im (s0im s0nil (hS.im 2 rfl)) (hS.im 1 rfl))] ?_
 refine t_r [1,4,8] [vP b1,vI y6,vB (y6 != 0)] [] ?_
 refine t_i2 hm (fun hm => ?_)
 refine t_skip (t_starts ?_)
 refine t_b 1 [10] [.agg ⟨e4 c_ (gL [ac,a7])⟩] [kE 0 7] ?_
 obtain ⟨y13,hy13,hm⟩:=bindE hm
 refine t_c [1,2] [0,1,2] [] [] (pe (ac:=ac) (a7:=a7) m _ _ hy13) fun g14 => ?_
 refine t_b 4 [2,3] [vL g14 y13,vI 0] [] (t_end (t_sel [0] (t_ret ?_)))
 obtain rfl:=someE hm
 exact t_g g14 [0] rs2

def oA  : List Str :=
  kL7
theorem sg   (r : List Str) (hm : oA = r) : DoesM Tryz.prog 156 ⟨[]⟩ [] (fun (aA : Gh) => vL aA r) (fun aA => [eO 9 tS r aA]):=by
 rw [oA] at hm
 refine f_mem (Tryz.call156 _) Tryz.func156 Tryz.ntmps156 fun M X w => ?_
 refine t_r [] [] [] (t_starts ?_)
 refine t_m [] [] [] [] (fun _ _ H2 hd => o_li (T:=tS) (E:=9) (zv:=vN) [vS [109,97,114,103,105,110],vS [98,111,114,100,101,114],vS [111,117,116,108,105,110,101],vS [98,97,99,107,103,114,111,117,110,100]] kL7 [gL [],gL [],gL [],gL []] H2 hd rfl (InnL.cons trivial (InnL.cons trivial (InnL.cons trivial (InnL.cons trivial InnL.nil))))) fun g3 => ?_
 refine t_b 2 [0] [vK g3 4] [] (t_end (t_ret ?_))
 subst hm
 exact t_g g3 [0] rs1

def mB (m : Nat) (aL : Str) : Nat → (List Str) → Int → Option (List Str)
  | 0,_,_ => none
  | kk + 1,v27,v29 =>
    cond (decide (v29 < 4)) (
    chk (0 ≤ v29 ∧ v29 < ln kL2) <|
    lt ((gi kL2 v29)) fun x33 =>
    chk (ln aL + ln [45] ≤ 9223372036854775807) <|
    chk (ln (aL ++ [45]) + ln x33 ≤ 9223372036854775807) <|
    chk (ln v27 + ln ([(aL ++ [45]) ++ x33] : List Str) ≤ 137438953472) <|
    lt (v27 ++ ([(aL ++ [45]) ++ x33] : List Str)) fun q45 =>
    mB m aL kk q45 (w64 (v29 + 1))) (
    some v27)
def oF (m : Nat) (aL : Str) : Option (List Str) :=
  lt (oA) fun y3 =>
  Option.bind (cw 64 y3 aL) fun y8 =>
  cond (!y8) (
  some ([] : List Str)) (
  lt (!(aL == [109,97,114,103,105,110])) fun x14 =>
  cond x14 (
  none) (
  Option.bind (
  mB m aL m ([] : List Str) 0) fun (z19 : List Str) =>
  some z19))
theorem o3  (m : Nat) (aL : Str) (r : List Str) (hm : oF m aL = some r) : DoesM Tryz.prog 97 ⟨[vS aL]⟩ [] (fun (aA : Gh) => vL aA r) (fun aA => [eO 9 tS r aA]):=by
 rw [oF] at hm
 refine f_mem (Tryz.call97 _) Tryz.func97 Tryz.ntmps97 fun M X w => ?_
 refine t_r [0] [vS aL] [] (t_seq (t_block (t_starts ?_)))
 obtain ⟨y3,hy3,hm⟩:=letE hm
 refine t_c [] [] [0] [vS aL] (sg _ hy3.symm) fun g4 => ?_
 obtain ⟨y8,hy8,hm⟩:=bindE hm
 refine t_b 5 [0,6] [vS aL,vB (!y8)] [kr fun _ hS => dt (g_s:=g4) 64 _ _ _ hy8 _ (s0im s0nil (hS.osl 0 rfl))] (t_end (t_sel [] ?_))
 refine t_im hm (fun hm => ?c61) (fun hm => ?_)
 case c61 =>
  refine t_r [2] [vO] [] (t_ret ?_)
  obtain rfl:=someE hm
  refine t_nil 9 tS ?_
  exact t_g Gh.nil [0] rs1
 obtain ⟨x14,hx14,hm⟩:=letE hm
 refine t_r [0,11] [vS aL,vB x14] [] ?_ (he:=by subst hx14; kernel_rfl)
 refine t_i2 hm (fun hm => ?_)
 refine t_skip ?_
 refine t_r [0,3] [vS aL,vO] [] ?_
 obtain ⟨z19,hz,hm⟩:=bindE hm
 refine t_cutg [3] (fun (g55 : Gh) => [vL g55 z19]) (fun g55 => [eO 9 tS z19 g55]) ?_ ?_
 ·replace hm:=hz
  refine t_starts ?_
  refine t_m [] [] [0,3] [vS aL,vO] (fun _ _ H18 hd => o_li (T:=tS) (E:=9) (zv:=vN) [vS [116,111,112],vS [114,105,103,104,116],vS [98,111,116,116,111,109],vS [108,101,102,116]] kL2 [gL [],gL [],gL [],gL []] H18 hd rfl (InnL.cons trivial (InnL.cons trivial (InnL.cons trivial (InnL.cons trivial InnL.nil))))) fun g20 => ?_
  refine t_b 3 [0,3,17,18,19] [vS aL,vO,vK g20 4,vI 4,vI 0] [] (t_end (t_block ?_))
  refine t_nil 9 tS ?_
  intro _ _ H25 hS
  refine w_loop (fun kk a' w' => ∃ (v27 : List Str) (v29 : Int) (g28 : Gh),mB m aL kk v27 v29 = some _ ∧ Fr 32 (fS [0,17,18,3,19] [vS aL,vK g20 4,vI 4,vL g28 v27,vI v29]) a' ∧ SH M X w [eO 9 tS v27 g28,eO 9 tS kL2 g20] w') ⟨_,([] : List Str),0,Gh.nil,hm,FrG.keep (ks:=[0,17,18,3,19]) H25 (by kernel_rfl),hS⟩ ?_
  clear hm H25 hS
  rintro kk _ _ ⟨v27,v29,g28,hm,H,hS⟩
  cases kk with
  | zero => exact noneE hm
  | succ kk =>
   rw [mB] at hm
   refine t_in H hS ?_
   refine t_r [0,3,17,18,19,20] [vS aL,vL g28 v27,vK g20 4,vI 4,vI v29,vB (decide (v29 < 4))] [] (t_seq ?_)
   refine t_im hm (fun hm => ?_) (fun hm => ?c53)
   case c53 =>
    refine t_exit ?_
    obtain rfl:=someE hm
    refine t_sel [0] ?_
    exact t_eg g28 [3]
   refine t_skip (t_seq (t_block ?_))
   obtain ⟨ho32,hm⟩:=chkE hm
   obtain ⟨x33,hx33,hm⟩:=letE hm
   refine t_r [0,3,5,17,18,19] [vS aL,vL g28 v27,vS x33,vK g20 4,vI 4,vI v29] [kI 1 ho32,kJ 1 0 ho32] ?_ (he:=by subst hx33; kernel_rfl)
   refine t_start ?_
   obtain ⟨ho36,hm⟩:=chkE hm
   obtain ⟨ho37,hm⟩:=chkE hm
   refine t_b 5 [0,17,18,19,23,27] [vS aL,vK g20 4,vI 4,vI v29,vL g28 v27,vS ((aL ++ [45]) ++ x33)] [kh ho36,kh ho37] ?_
   refine t_m [] [0,1] [0,17,18,19,23] [vS aL,vK g20 4,vI 4,vI v29,vL g28 v27] (fun _ _ H39 hd => o_li (T:=tS) (E:=9) (zv:=vN) [vS ((aL ++ [45]) ++ x33)] ([(aL ++ [45]) ++ x33] : List Str) [gL []] H39 hd rfl (InnL.cons trivial InnL.nil)) fun g40 => ?_
   obtain ⟨ho44,hm⟩:=chkE hm
   obtain ⟨q45,hq45,hm⟩:=letE hm
   refine t_m [1,0] [2] [0,17,18,19] [vS aL,vK g20 4,vI 4,vI v29] (fun _ _ H43 hd => o_app2 (T:=tS) (zv:=vN) (g1:=g28) (g2:=g40) (l1:=v27) (l2:=([(aL ++ [45]) ++ x33] : List Str)) q45 hq45.symm H43 hd rfl rfl rfl rfl rfl rfl rfl (by kernel_rfl) (by kernel_rfl) rfl rfl ho44) fun g48 => ?_
   refine t_b 8 [0,3,17,18,19] [vS aL,vL g48 q45,vK g20 4,vI 4,vI v29] [] (t_end (t_sel [0,2] ?_))
   refine t_w [0,3,17,18,19] [vS aL,vL g48 q45,vK g20 4,vI 4,vI (w64 (v29 + 1))] [] ?_
   exact fun _ _ H52 hS => ⟨_,Nat.lt_succ_self _,q45,w64 (v29 + 1),g48,hm,FrG.keep (ks:=[0,17,18,3,19]) H52 (by kernel_rfl),hS⟩
 ·intro g55
  refine t_r [2] [vL g55 z19] [] (t_ret ?_)
  obtain rfl:=someE hm
  exact t_g g55 [0] rs1

def lu (aL : Str) : Option (Bool) :=
  Option.bind (fF aL [45,45]) fun y3 =>
  lt (cond (cond y3 (decide (2 < (ln aL))) false) (decide ((ln aL) ≤ 64)) false) fun x4 =>
  some x4
theorem nQ  (aL : Str) (r : Bool) (hm : lu aL = some r) : Ret Tryz.prog 99 ⟨[vS aL]⟩ (vB r):=by
 rw [lu] at hm
 refine f_pure (Tryz.call99 _) Tryz.func99 Tryz.ntmps99 fun M X w => ?_
 refine t_r [0] [vS aL] [] ?_
 obtain ⟨y3,hy3,hm⟩:=bindE hm
 obtain ⟨x4,hx4,hm⟩:=letE hm
 refine t_r [2] [vB x4] [kc (i6 _ _ _ hy3)] ?_ (he:=by subst hx4; kernel_rfl)
 refine t_ret ?_
 obtain rfl:=someE hm
 exact t_n [] rs1

structure d0 where
  Red : Int
  dp : Int
  f5 : Int
  dq : Int
instance : Inhabited d0:=⟨⟨default,default,default,default⟩⟩
abbrev cC (x : d0) : List Value := [vU x.Red, vU x.dp, vU x.f5, vU x.dq]
def wv : Ty d0 where
  z:=4
  enc:=fun x g => (cC x)
  inn:=fun _ _ _ _ => True
  len:=fun _ _ => rfl
  one:=fun _ _ => rfl
  kp:=fun _ _ _ => trivial
  anti:=fun _ _ => trivial
  fresh:=fun _ => trivial
def e19 (x : d0) : List Value:=wv.enc x (gL [])
structure du where
  aj : Int
  jz : Str
  Num : Int
  aX : d0
instance : Inhabited du:=⟨⟨default,default,default,default⟩⟩
abbrev cV (x : du) : List Value := [vU x.aj, vS x.jz, vI x.Num, vU x.aX.Red, vU x.aX.dp, vU x.aX.f5, vU x.aX.dq]
def nf : Ty du where
  z:=7
  enc:=fun x g => (cV x)
  inn:=fun _ _ _ _ => True
  len:=fun _ _ => rfl
  one:=fun _ _ => rfl
  kp:=fun _ _ _ => trivial
  anti:=fun _ _ => trivial
  fresh:=fun _ => trivial
def e20 (x : du) : List Value:=nf.enc x (gL [])
def jP (s : Str) : du :=
  (du.mk 1 s 0 (d0.mk 0 0 0 0))
theorem mK  (s : Str) : Ret Tryz.prog 250 ⟨[vS s]⟩ (.agg ⟨e20 (jP s)⟩):=by
 generalize hm : jP s = r
 rw [jP] at hm
 refine f_pure (Tryz.call250 _) Tryz.func250 Tryz.ntmps250 fun M X w => (t_starts ?_)
 refine t_m [] [] [0] [vS s] (fun _ _ H hd => o_alloc [vU 0,vN,vI 0,vU 0,vU 0,vU 0,vU 0] (z:=vG [vU 0,vN,vI 0,vU 0,vU 0,vU 0,vU 0]) hd (by kernel_rfl) rfl) fun b1 => (t_end (t_starts ?_))
 refine t_b 2 [2,4] [vP b1,vG [vU 1,vS s,vI 0,vU 0,vU 0,vU 0,vU 0]] [] ?_
 refine t_m0 [0] [] [2] [vP b1] (fun _ _ H5 hd => o_store [vU 1,vS s,vI 0,vU 0,vU 0,vU 0,vU 0] H5 hd rfl rfl (by kernel_rfl) rfl rfl rfl) (t_end (t_ret ?_))
 subst hm
 exact t_n [] (rsa 0 Tryz.underlying244)

structure cu where
  bA : Str
  f1 : Bool
  aO : du
  cB : List Str
  cD : List Int
  mj : Bool
instance : Inhabited cu:=⟨⟨default,default,default,default,default,default⟩⟩
def fg : Ty cu where
  z:=12
  enc:=fun x g => [vS x.bA,vB x.f1,vU x.aO.aj,vS x.aO.jz,vI x.aO.Num,vU x.aO.aX.Red,vU x.aO.aX.dp,vU x.aO.aX.f5,vU x.aO.aX.dq,.slice (g 0).a x.cB.length (g 0).c,.slice (g 1).a x.cD.length (g 1).c,vB x.mj]
  inn:=fun M w x g => SlG tS M w x.cB (g 0) ∧ SlG (tI .u8) M w x.cD (g 1) ∧ True
  len:=fun _ _ => rfl
  one:=fun _ _ => rfl
  kp:=fun h k hX => ⟨h.1.kp k hX,h.2.1.kp k hX,trivial⟩
  anti:=fun h hM => ⟨h.1.anti hM,h.2.1.anti hM,trivial⟩
  fresh:=fun h => ⟨h.1.fresh,h.2.1.fresh,trivial⟩
def e21 (x : cu) (g : Nat → Gh) : List Value:=fg.enc x g
theorem u2 {M : Av} {w : World} {x : cu} {g : Nat → Gh} (h : fg.inn M w x g) : SlG tS M w x.cB (g 0):=(show SlG tS M w x.cB (g 0) ∧ SlG (tI .u8) M w x.cD (g 1) ∧ True from h).1
theorem tY {M : Av} {w : World} {x : cu} {g : Nat → Gh} (h : fg.inn M w x g) : SlG (tI .u8) M w x.cD (g 1):=(show SlG tS M w x.cB (g 0) ∧ SlG (tI .u8) M w x.cD (g 1) ∧ True from h).2.1
theorem eN {M : Av} {w : World} {x : cu} {g : Nat → Gh} (h0 : SlG tS M w x.cB (g 0)) (h1 : SlG (tI .u8) M w x.cD (g 1)) : fg.inn M w x g:=show SlG tS M w x.cB (g 0) ∧ SlG (tI .u8) M w x.cD (g 1) ∧ True from ⟨h0,h1,trivial⟩
def hQ (aL : Str) (bc : Bool) (first : du) : cu :=
  (cu.mk aL bc first ([] : List Str) ([7,8] : List Int) false)
theorem tF  (M : Av) (aL : Str) (bc : Bool) (first : du) (r : cu) (hm : hQ aL bc first = r) (w : World) (hS : S0 M [] w) : Calls Tryz.prog 251 ⟨[vS aL,vB bc,.agg ⟨e20 first⟩]⟩ w (fun e w' => ∃ v,e = .returned v ∧ ∃ (aA : Gh) (cY : Gh),v = .agg ⟨e21 r (gL [aA,cY])⟩ ∧ SH M (fpl []) w [eO 9 tS r.cB aA,eO 5 (tI .u8) r.cD cY] w'):=by
 rw [hQ] at hm
 have hS0 : SH M (fpl []) w [] w:=hS
 generalize hX : fpl [] = X at hS0 ⊢
 clear hS hX
 have hS:=hS0
 clear hS0
 refine calls_entryP Tryz.func251 rfl Tryz.ntmps251 rfl fun _ H => ?_
 refine t_in H hS (t_starts ?_)
 refine t_m [] [] [0,1] [vS aL,vB bc] (fun _ _ H hd => o_box (e20 first) H hd rfl rfl) fun b1 => ?_
 refine t_m [] [0] [0,1,5] [vS aL,vB bc,vP b1] (fun _ _ H3 hd => o_alloc [vN,vF,vU 0,vN,vI 0,vU 0,vU 0,vU 0,vU 0,vO,vO,vF] (z:=vG [vN,vF,vU 0,vN,vI 0,vU 0,vU 0,vU 0,vU 0,vO,vO,vF]) hd (by kernel_rfl) rfl) fun b4 => (t_end (t_starts ?_))
 refine t_b 3 [6,7,8,9] [vP b4,vS aL,vB bc,.agg ⟨e20 first⟩] [kE 1 7] ?_
 refine t_m [] [0,1] [6,7,8,9] [vP b4,vS aL,vB bc,.agg ⟨e20 first⟩] (fun _ _ H8 hd => o_li (T:=(tI .u8)) (E:=5) (zv:=vU 0) [vU 7,vU 8] ([7,8] : List Int) [gL [],gL []] H8 hd rfl (InnL.cons trivial (InnL.cons trivial InnL.nil))) fun g9 => ?_
 refine t_b 5 [6,11] [vP b4,vG [vS aL,vB bc,vU first.aj,vS first.jz,vI first.Num,vU first.aX.Red,vU first.aX.dp,vU first.aX.f5,vU first.aX.dq,vO,vK g9 2,vF]] [] ?_
 refine t_m0 [1] [0,2] [6] [vP b4] (fun _ _ H14 hd => o_store [vS aL,vB bc,vU first.aj,vS first.jz,vI first.Num,vU first.aX.Red,vU first.aX.dp,vU first.aX.f5,vU first.aX.dq,vO,vK g9 2,vF] H14 hd rfl rfl (by kernel_rfl) rfl rfl rfl) (t_end (t_sel [0,1] (t_ret ?_)))
 subst hm
 refine t_nil 9 tS ?_
 exact fun _ _ H16 hS => retR1 H16 rfl (oneRes_agg rfl (hS.bk 1 rfl) Tryz.underlying281 rfl (by kernel_rfl)) ⟨_,rfl,Gh.nil,g9,rfl,(hS.sel [0,2] rfl)⟩
theorem jd  (aL : Str) (bc : Bool) (first : du) (r : cu) (hm : hQ aL bc first = r) (M : Av) (w : World) (hS : S0 M [] w) : DoesX Tryz.prog 251 ⟨[vS aL,vB bc,.agg ⟨e20 first⟩]⟩ w (fun v w' => ∃ (aA : Gh) (cY : Gh),v = .agg ⟨e21 r (gL [aA,cY])⟩ ∧ SH M (fpl []) w [eO 9 tS r.cB aA,eO 5 (tI .u8) r.cD cY] w'):=⟨Tryz.call251 _,tF M   aL bc first r hm w hS⟩

abbrev gE4 : Ent:=eI (tI .u8) gl_strings_asciiSpace (Gh.mk (some ⟨4,0,none⟩) 256 fun _ _ => .nil)
def gS (m : Nat) (s : Str) : Nat → Int → Int → Int → Int → Option (Int × Int)
  | 0,_,_,_,_ => none
  | kk + 1,v12,v13,v14,v15 =>
    cond (decide (v15 < (ln s))) (
    chk (0 ≤ v15 ∧ v15 < ln s) <|
    chk (0 ≤ (bat s v15) ∧ (bat s v15) < (256 : Int)) <|
    lt (w64 (gi gl_strings_asciiSpace (bat s v15))) fun x24 =>
    lt (ibit .and .i64 v13 (ibit .xor .i64 (-1) x24)) fun x27 =>
    gS m s kk (w64 (v12 + x27)) x24 (ibit .or .u8 v14 (bat s v15)) (w64 (v15 + 1))) (
    some (v12,v14))
def j6 (m : Nat) (s : Str) : Nat → Int → Option (Int)
  | 0,_ => none
  | kk + 1,v55 =>
    chk ((decide (v55 < (ln s))) = true → 0 ≤ v55 ∧ v55 < ln s) <|
    chk ((decide (v55 < (ln s))) = true → 0 ≤ (bat s v55) ∧ (bat s v55) < (256 : Int)) <|
    lt (cond (decide (v55 < (ln s))) ((gi gl_strings_asciiSpace (bat s v55)) != 0) false) fun x58 =>
    cond x58 (
    none) (
    some v55)
def j9 (m : Nat) (s : Str) : Nat → Int → Option (Int)
  | 0,_ => none
  | kk + 1,v93 =>
    chk ((decide (v93 < (ln s))) = true → 0 ≤ v93 ∧ v93 < ln s) <|
    chk ((decide (v93 < (ln s))) = true → 0 ≤ (bat s v93) ∧ (bat s v93) < (256 : Int)) <|
    lt (cond (decide (v93 < (ln s))) ((gi gl_strings_asciiSpace (bat s v93)) != 0) false) fun x96 =>
    cond x96 (
    none) (
    some v93)
def fE (m : Nat) (s : Str) : Nat → (List Str) → Int → Int → Int → Option (Int × Int × (List Str))
  | 0,_,_,_,_ => none
  | kk + 1,v66,v68,v69,v70 =>
    cond (decide (v70 < (ln s))) (
    chk (0 ≤ v70 ∧ v70 < ln s) <|
    chk (0 ≤ (bat s v70) ∧ (bat s v70) < (256 : Int)) <|
    lt ((gi gl_strings_asciiSpace (bat s v70)) == 0) fun x75 =>
    cond x75 (
    fE m s kk v66 v68 v69 (w64 (v70 + 1))) (
    chk (0 ≤ v69 ∧ v69 ≤ v70 ∧ v70 ≤ ln s) <|
    chk (0 ≤ v68 ∧ v68 < ln v66) <|
    lt (setl v66 v68 (sub s v69 v70)) fun q87 =>
    Option.bind (
    j9 m s m (w64 (v70 + 1))) fun (z92 : Int) =>
    fE m s kk q87 (w64 (v68 + 1)) z92 z92)) (
    some (v68,v69,v66))
def jr (m : Nat) (s : Str) : Option (List Str) :=
  Option.bind (
  gS m s m 0 1 0 0) fun (z9 : Int × Int) =>
  cond (decide (128 ≤ z9.2)) (
  none) (
  chk (0 ≤ z9.1 ∧ z9.1 ≤ z9.1 ∧ z9.1 ≤ 137438953472) <|
  lt (List.replicate (z9.1).toNat ([] : Str)) fun q41 =>
  Option.bind (
  j6 m s m 0) fun (z54 : Int) =>
  Option.bind (
  fE m s m q41 0 z54 z54) fun (z65 : Int × Int × (List Str)) =>
  Option.bind (
  cond (decide (z65.2.1 < (ln s))) (
  chk (0 ≤ z65.2.1 ∧ z65.2.1 ≤ ln s) <|
  chk (0 ≤ z65.1 ∧ z65.1 < ln z65.2.2) <|
  lt (setl z65.2.2 z65.1 (sub s z65.2.1 (ln s))) fun q118 =>
  some q118) (
  some z65.2.2)) fun (wn : List Str) =>
  some wn)
theorem mn  (m : Nat) (s : Str) (r : List Str) (hm : jr m s = some r) : DoesM Tryz.prog 284 ⟨[vS s]⟩ [gE4] (fun (aA : Gh) => .slice aA.a r.length aA.c) (fun aA => [eO 9 tS r aA]):=by
 rw [jr] at hm
 refine f_mem (Tryz.call284 _) Tryz.func284 Tryz.ntmps284 fun M X w => ?_
 refine t_r [0] [vS s] [] ?_
 refine t_r [0,3] [vS s,vI 0] [] ?_
 refine t_r [0,3,4] [vS s,vI 0,vI 1] [] ?_
 refine t_r [0,3,4,5] [vS s,vI 0,vI 1,vU 0] [] ?_
 obtain ⟨z9,hz,hm⟩:=bindE hm
 refine t_cut [0,3,5] [vS s,vI z9.1,vU z9.2] [gE4] ?_ ?_
 ·replace hm:=hz
  refine t_r [0,3,4,5,6] [vS s,vI 0,vI 1,vU 0,vI 0] [] (t_block ?_)
  intro _ _ H11 hS
  refine w_loop (fun kk a' w' => ∃ (v12 : Int) (v13 : Int) (v14 : Int) (v15 : Int),gS m s kk v12 v13 v14 v15 = some _ ∧ Fr 106 (fS [0,3,4,5,6] [vS s,vI v12,vI v13,vU v14,vI v15]) a' ∧ SH M X w [gE4] w') ⟨_,0,1,0,0,hm,FrG.keep (ks:=[0,3,4,5,6]) H11 (by kernel_rfl),hS⟩ ?_
  clear hm H11 hS
  rintro kk _ _ ⟨v12,v13,v14,v15,hm,H,hS⟩
  cases kk with
  | zero => exact noneE hm
  | succ kk =>
   rw [gS] at hm
   refine t_in H hS (t_seq ?_)
   refine t_r [0,3,4,5,6,16] [vS s,vI v12,vI v13,vU v14,vI v15,vB (decide (v15 < (ln s)))] [] ?_
   refine t_im hm (fun hm => ?_) (fun hm => ?c34)
   case c34 =>
    refine t_exit ?_
    obtain rfl:=someE hm
    exact t_e [0,3,5]
   refine t_skip (t_seq (t_block ?_))
   obtain ⟨ho18,hm⟩:=chkE hm
   refine t_r [0,3,4,5,6,7] [vS s,vI v12,vI v13,vU v14,vI v15,vU (bat s v15)] [kh ho18] ?_
   refine t_r [0,3,4,5,6,7] [vS s,vI v12,vI v13,vU (ibit .or .u8 v14 (bat s v15)),vI v15,vU (bat s v15)] [] ?_
   obtain ⟨ho23,hm⟩:=chkE hm
   obtain ⟨x24,hx24,hm⟩:=letE hm
   refine t_r [0,3,4,5,6,8] [vS s,vI v12,vI v13,vU (ibit .or .u8 v14 (bat s v15)),vI v15,vI x24] [kh ho23,kj 0 0 ho23] ?_ (he:=by subst hx24; kernel_rfl)
   obtain ⟨x27,hx27,hm⟩:=letE hm
   refine t_r [0,3,5,6,8] [vS s,vI (w64 (v12 + x27)),vU (ibit .or .u8 v14 (bat s v15)),vI v15,vI x24] [] ?_ (he:=by subst hx27; kernel_rfl)
   refine t_w [0,3,4,5,6] [vS s,vI (w64 (v12 + x27)),vI x24,vU (ibit .or .u8 v14 (bat s v15)),vI v15] [] ?_
   refine t_w [0,3,4,5,6] [vS s,vI (w64 (v12 + x27)),vI x24,vU (ibit .or .u8 v14 (bat s v15)),vI (w64 (v15 + 1))] [] ?_
   exact fun _ _ H33 hS => ⟨_,Nat.lt_succ_self _,w64 (v12 + x27),x24,ibit .or .u8 v14 (bat s v15),w64 (v15 + 1),hm,FrG.keep (ks:=[0,3,4,5,6]) H33 (by kernel_rfl),hS⟩
 ·refine t_seq ?_
  refine t_r [0,3,37] [vS s,vI z9.1,vB (decide (128 ≤ z9.2))] [] ?_
  refine t_i2 hm (fun hm => ?_)
  refine t_skip (t_starts ?_)
  refine t_b 1 [0,40] [vS s,vI z9.1] [] ?_
  obtain ⟨ho40,hm⟩:=chkE hm
  obtain ⟨q41,hq41,hm⟩:=letE hm
  refine t_m [] [0] [0] [vS s] (fun _ _ H39 hd => o_make (T:=tS) (E:=9) (zv:=vN) ([] : Str) H39 hd rfl rfl (by kernel_rfl) (by kernel_rfl) rfl rfl (fun _ _ => trivial) ho40) fun g44 => ?_
  rw [← hq41]
  refine t_b 3 [0,9] [vS s,.slice g44.a q41.length g44.c] [] (t_end ?_)
  refine t_r [0,9,10] [vS s,.slice g44.a q41.length g44.c,vI 0] [] ?_
  refine t_r [0,9,10] [vS s,.slice g44.a q41.length g44.c,vI 0] [] ?_
  refine t_r [0,9,10,12] [vS s,.slice g44.a q41.length g44.c,vI 0,vI 0] [] ?_
  obtain ⟨z54,hz,hm⟩:=bindE hm
  refine t_cut [0,9,10,12] [vS s,.slice g44.a q41.length g44.c,vI 0,vI z54] [eO 9 tS q41 g44,gE4] ?_ ?_
  ·replace hm:=hz
   refine t_block ?_
   intro _ _ H53 hS
   refine w_loop (fun kk a' w' => ∃ (v55 : Int),j6 m s kk v55 = some _ ∧ Fr 106 (fS [0,9,10,12] [vS s,.slice g44.a q41.length g44.c,vI 0,vI v55]) a' ∧ SH M X w [eO 9 tS q41 g44,gE4] w') ⟨_,0,hm,FrG.keep (ks:=[0,9,10,12]) H53 (by kernel_rfl),hS⟩ ?_
   clear hm H53 hS
   rintro kk _ _ ⟨v55,hm,H,hS⟩
   cases kk with
   | zero => exact noneE hm
   | succ kk =>
    rw [j6] at hm
    refine t_in H hS (t_seq ?_)
    obtain ⟨ho56,hm⟩:=chkE hm
    obtain ⟨ho57,hm⟩:=chkE hm
    obtain ⟨x58,hx58,hm⟩:=letE hm
    refine t_r [0,9,10,12,53] [vS s,.slice g44.a q41.length g44.c,vI 0,vI v55,vB x58] [kgh ((decide (v55 < (ln s))) = true ∧ True) fun hg => (ho56 hg.1),kgh ((decide (v55 < (ln s))) = true ∧ True) fun hg => (ho57 hg.1),kgj ((decide (v55 < (ln s))) = true ∧ True) 1 0 fun hg => (ho57 hg.1)] ?_ (he:=by subst hx58; kernel_rfl)
    refine t_im hm (fun hm => ?_) (fun hm => ?c61)
    case c61 =>
     refine t_exit ?_
     obtain rfl:=someE hm
     exact t_e [0,9,10,12]
    refine t_skip (t_block ?_)
    intro _ _ H60 hS
    exact noneE hm
  ·refine t_r [0,9,10,11,12] [vS s,.slice g44.a q41.length g44.c,vI 0,vI z54,vI z54] [] ?_
   obtain ⟨z65,hz,hm⟩:=bindE hm
   refine t_cutg [0,9,10,11] (fun (oz : Gh) => [vS s,.slice oz.a z65.2.2.length oz.c,vI z65.1,vI z65.2.1]) (fun oz => [eO 9 tS z65.2.2 oz,gE4]) ?_ ?_
   ·replace hm:=hz
    refine t_block ?_
    intro _ _ H64 hS
    refine w_loop (fun kk a' w' => ∃ (v66 : List Str) (v68 : Int) (v69 : Int) (v70 : Int) (g67 : Gh),fE m s kk v66 v68 v69 v70 = some _ ∧ Fr 106 (fS [0,9,10,11,12] [vS s,.slice g67.a v66.length g67.c,vI v68,vI v69,vI v70]) a' ∧ SH M X w [eO 9 tS v66 g67,gE4] w') ⟨_,q41,0,z54,z54,g44,hm,FrG.keep (ks:=[0,9,10,11,12]) H64 (by kernel_rfl),hS⟩ ?_
    clear hm H64 hS
    rintro kk _ _ ⟨v66,v68,v69,v70,g67,hm,H,hS⟩
    cases kk with
    | zero => exact noneE hm
    | succ kk =>
     rw [fE] at hm
     refine t_in H hS (t_seq ?_)
     refine t_r [0,9,10,11,12,60] [vS s,.slice g67.a v66.length g67.c,vI v68,vI v69,vI v70,vB (decide (v70 < (ln s)))] [] ?_
     refine t_im hm (fun hm => ?_) (fun hm => ?c105)
     case c105 =>
      refine t_exit ?_
      obtain rfl:=someE hm
      exact t_eg g67 [0,9,10,11]
     refine t_skip (t_block (t_seq ?_))
     obtain ⟨ho73,hm⟩:=chkE hm
     obtain ⟨ho74,hm⟩:=chkE hm
     obtain ⟨x75,hx75,hm⟩:=letE hm
     refine t_r [0,9,10,11,12,66] [vS s,.slice g67.a v66.length g67.c,vI v68,vI v69,vI v70,vB x75] [kh ho73,kh ho74,kj 1 0 ho74] ?_ (he:=by subst hx75; kernel_rfl)
     refine t_im hm (fun hm => ?c104) (fun hm => ?_)
     case c104 =>
      refine t_r [0,9,10,11,12] [vS s,.slice g67.a v66.length g67.c,vI v68,vI v69,vI (w64 (v70 + 1))] [] ?_
      refine t_exit ?_
      exact fun _ _ H79 hS => ⟨_,Nat.lt_succ_self _,v66,v68,v69,w64 (v70 + 1),g67,hm,FrG.keep (ks:=[0,9,10,11,12]) H79 (by kernel_rfl),hS⟩
     refine t_skip (t_starts ?_)
     obtain ⟨ho80,hm⟩:=chkE hm
     obtain ⟨ho81,hm⟩:=chkE hm
     refine t_b 7 [0,9,10,12,74,75] [vS s,.slice g67.a v66.length g67.c,vI v68,vI v70,vS (sub s v69 v70),.pointer (some ⟨ab g67.a,ao g67.a + (v68).toNat * 1,none⟩)] [kh ho80,kI 0 ho81] ?_
     intro _ _ H83 hS
     have hd:=hS.hand [0] [1] rfl rfl
     refine m_stp0 [0,9,10,12] (fS [0,9,10,12] [vS s,.slice g67.a v66.length g67.c,vI v68,vI v70]) H83 rfl rfl rfl (o_estore (T:=tS) (g:=g67) (q:=v66) (ix:=v68) (off:=0) (sub s v69 v70) (gL []) H83 hd rfl rfl rfl rfl (by kernel_rfl) rfl rfl ho81 rfl trivial rfl) rfl fun _ _ H85 hq => ?_
     obtain ⟨_,hq⟩:=hq
     obtain ⟨s86,hq⟩:=hq
     obtain ⟨q87,hq87,hm⟩:=letE hm
     rw [← hq87] at hq
     have hn : v66.length = q87.length:=by rw [hq87,setl_len]
     first | (unfold vL at H85; rw [hn] at H85) | rw [hn] at H85 | skip
     first | (unfold vL at hS; rw [hn] at hS) | rw [hn] at hS | skip
     clear hn
     replace hS:=hS.join [0] [1] rfl rfl hq
     refine t_in H85 hS (t_end ?_)
     refine t_r [0,9,10,12] [vS s,.slice (Gh.mk g67.a g67.c s86).a q87.length (Gh.mk g67.a g67.c s86).c,vI (w64 (v68 + 1)),vI v70] [] ?_
     refine t_r [0,9,10,12] [vS s,.slice (Gh.mk g67.a g67.c s86).a q87.length (Gh.mk g67.a g67.c s86).c,vI (w64 (v68 + 1)),vI (w64 (v70 + 1))] [] ?_
     obtain ⟨z92,hz,hm⟩:=bindE hm
     refine t_cut [0,9,10,12] [vS s,.slice (Gh.mk g67.a g67.c s86).a q87.length (Gh.mk g67.a g67.c s86).c,vI (w64 (v68 + 1)),vI z92] [eO 9 tS q87 (Gh.mk g67.a g67.c s86),gE4] ?_ ?_
     ·replace hm:=hz
      refine t_block ?_
      intro _ _ H91 hS
      refine w_loop (fun kk a' w' => ∃ (v93 : Int),j9 m s kk v93 = some _ ∧ Fr 106 (fS [0,9,10,12] [vS s,.slice (Gh.mk g67.a g67.c s86).a q87.length (Gh.mk g67.a g67.c s86).c,vI (w64 (v68 + 1)),vI v93]) a' ∧ SH M X w [eO 9 tS q87 (Gh.mk g67.a g67.c s86),gE4] w') ⟨_,w64 (v70 + 1),hm,FrG.keep (ks:=[0,9,10,12]) H91 (by kernel_rfl),hS⟩ ?_
      clear hm H91 hS
      rintro kk _ _ ⟨v93,hm,H,hS⟩
      cases kk with
      | zero => exact noneE hm
      | succ kk =>
       rw [j9] at hm
       refine t_in H hS (t_seq ?_)
       obtain ⟨ho94,hm⟩:=chkE hm
       obtain ⟨ho95,hm⟩:=chkE hm
       obtain ⟨x96,hx96,hm⟩:=letE hm
       refine t_r [0,9,10,12,91] [vS s,.slice (Gh.mk g67.a g67.c s86).a q87.length (Gh.mk g67.a g67.c s86).c,vI (w64 (v68 + 1)),vI v93,vB x96] [kgh ((decide (v93 < (ln s))) = true ∧ True) fun hg => (ho94 hg.1),kgh ((decide (v93 < (ln s))) = true ∧ True) fun hg => (ho95 hg.1),kgj ((decide (v93 < (ln s))) = true ∧ True) 1 0 fun hg => (ho95 hg.1)] ?_ (he:=by subst hx96; kernel_rfl)
       refine t_im hm (fun hm => ?_) (fun hm => ?c99)
       case c99 =>
        refine t_exit ?_
        obtain rfl:=someE hm
        exact t_e [0,9,10,12]
       refine t_skip (t_block ?_)
       intro _ _ H98 hS
       exact noneE hm
     ·refine t_w [0,9,10,11,12] [vS s,.slice (Gh.mk g67.a g67.c s86).a q87.length (Gh.mk g67.a g67.c s86).c,vI (w64 (v68 + 1)),vI z92,vI z92] [] ?_
      exact fun _ _ H102 hS => ⟨_,Nat.lt_succ_self _,q87,w64 (v68 + 1),z92,z92,(Gh.mk g67.a g67.c s86),hm,FrG.keep (ks:=[0,9,10,11,12]) H102 (by kernel_rfl),hS⟩
   ·intro oz
    obtain ⟨wn,hz,hm⟩:=bindE hm
    refine t_cutg [9] (fun (oy : Gh) => [.slice oy.a wn.length oy.c]) (fun oy => [eO 9 tS wn oy,gE4]) ?_ ?_
    ·replace hm:=hz
     refine t_r [0,9,10,11,98] [vS s,.slice oz.a z65.2.2.length oz.c,vI z65.1,vI z65.2.1,vB (decide (z65.2.1 < (ln s)))] [] ?_
     refine t_im hm (fun hm => ?_) (fun hm => ?c119)
     case c119 =>
      refine t_skip ?_
      obtain rfl:=someE hm
      exact t_eg oz [9]
     refine t_start ?_
     obtain ⟨ho111,hm⟩:=chkE hm
     obtain ⟨ho112,hm⟩:=chkE hm
     refine t_b 6 [9,103,104] [.slice oz.a z65.2.2.length oz.c,vS (sub s z65.2.1 (ln s)),.pointer (some ⟨ab oz.a,ao oz.a + (z65.1).toNat * 1,none⟩)] [kh ho111,kI 0 ho112] ?_
     intro _ _ H114 hS
     have hd:=hS.hand [0] [1] rfl rfl
     refine m_stp0 [9] [(9,[],.slice oz.a z65.2.2.length oz.c)] H114 rfl rfl rfl (o_estore (T:=tS) (g:=oz) (q:=z65.2.2) (ix:=z65.1) (off:=0) (sub s z65.2.1 (ln s)) (gL []) H114 hd rfl rfl rfl rfl (by kernel_rfl) rfl rfl ho112 rfl trivial rfl) rfl fun _ _ H116 hq => ?_
     obtain ⟨_,hq⟩:=hq
     obtain ⟨s117,hq⟩:=hq
     obtain ⟨q118,hq118,hm⟩:=letE hm
     rw [← hq118] at hq
     have hn : z65.2.2.length = q118.length:=by rw [hq118,setl_len]
     first | (unfold vL at H116; rw [hn] at H116) | rw [hn] at H116 | skip
     first | (unfold vL at hS; rw [hn] at hS) | rw [hn] at hS | skip
     clear hn
     replace hS:=hS.join [0] [1] rfl rfl hq
     refine t_in H116 hS (t_end ?_)
     obtain rfl:=someE hm
     exact fun _ _ H116 hS => ⟨(Gh.mk oz.a oz.c s117),FrG.keep (ks:=[9]) H116 (by kernel_rfl),hS⟩
    ·intro oy
     refine t_r [2] [.slice oy.a wn.length oy.c] [] (t_ret ?_)
     obtain rfl:=someE hm
     exact t_g oy [0] rs1

def iY (m : Nat) (aL : Str) (bc : Bool) (first : Str) (lY : Str) : Option (cu) :=
  lt (jP first) fun y4 =>
  Option.bind (jr m lY) fun y7 =>
  some (cu.mk aL bc y4 y7 ([] : List Int) false)
theorem tg  (M : Av) (m : Nat) (aL : Str) (bc : Bool) (first : Str) (lY : Str) (r : cu) (hm : iY m aL bc first lY = some r) (w : World) (hS : S0 M [gE4] w) : Calls Tryz.prog 252 ⟨[vS aL,vB bc,vS first,vS lY]⟩ w (fun e w' => ∃ v,e = .returned v ∧ ∃ (aA : Gh) (cY : Gh),v = .agg ⟨e21 r (gL [aA,cY])⟩ ∧ SH M (fpl [gE4]) w [eO 9 tS r.cB aA,eO 5 (tI .u8) r.cD cY] w'):=by
 rw [iY] at hm
 have hS0 : SH M (fpl [gE4]) w [gE4] w:=hS
 generalize hX : fpl [gE4] = X at hS0 ⊢
 clear hS hX
 have hS:=hS0
 clear hS0
 refine calls_entryP Tryz.func252 rfl Tryz.ntmps252 rfl fun _ H => ?_
 refine t_in H hS (t_starts ?_)
 refine t_m [] [0] [0,1,2,3] [vS aL,vB bc,vS first,vS lY] (fun _ _ H hd => o_alloc [vN,vF,vU 0,vN,vI 0,vU 0,vU 0,vU 0,vU 0,vO,vO,vF] (z:=vG [vN,vF,vU 0,vN,vI 0,vU 0,vU 0,vU 0,vU 0,vO,vO,vF]) hd (by kernel_rfl) rfl) fun b1 => (t_end (t_starts ?_))
 obtain ⟨y4,hy4,hm⟩:=letE hm
 refine t_b 5 [8,9,10,12,13] [vP b1,vS aL,vB bc,.agg ⟨e20 y4⟩,vS lY] [⟨some (.agg ⟨e20 y4⟩),rB 250 [vS first] (.agg ⟨e20 y4⟩),fun _ _ => ((by rw [hy4]; exact (mK first).b))⟩] ?_ (he:=by subst hy4; kernel_rfl)
 obtain ⟨y7,hy7,hm⟩:=bindE hm
 refine t_c [1] [0,1] [8,9,10,12] [vP b1,vS aL,vB bc,.agg ⟨e20 y4⟩] (mn m _ _ hy7) fun g8 => ?_
 refine t_b 7 [8,15] [vP b1,vG [vS aL,vB bc,vU y4.aj,vS y4.jz,vI y4.Num,vU y4.aX.Red,vU y4.aX.dp,vU y4.aX.f5,vU y4.aX.dq,vL g8 y7,vO,vF]] [] ?_
 refine t_m0 [1] [0,2] [8] [vP b1] (fun _ _ H13 hd => o_store [vS aL,vB bc,vU y4.aj,vS y4.jz,vI y4.Num,vU y4.aX.Red,vU y4.aX.dp,vU y4.aX.f5,vU y4.aX.dq,vL g8 y7,vO,vF] H13 hd rfl rfl (by kernel_rfl) rfl rfl rfl) (t_end (t_ret ?_))
 obtain rfl:=someE hm
 refine t_nil 5 (tI .u8) ?_
 exact fun _ _ H15 hS => retR1 H15 rfl (oneRes_agg rfl (hS.bk 1 rfl) Tryz.underlying281 rfl (by kernel_rfl)) ⟨_,rfl,g8,Gh.nil,rfl,(hS.sel [2,0] rfl)⟩
theorem m9  (m : Nat) (aL : Str) (bc : Bool) (first : Str) (lY : Str) (r : cu) (hm : iY m aL bc first lY = some r) (M : Av) (w : World) (hS : S0 M [gE4] w) : DoesX Tryz.prog 252 ⟨[vS aL,vB bc,vS first,vS lY]⟩ w (fun v w' => ∃ (aA : Gh) (cY : Gh),v = .agg ⟨e21 r (gL [aA,cY])⟩ ∧ SH M (fpl [gE4]) w [eO 9 tS r.cB aA,eO 5 (tI .u8) r.cD cY] w'):=⟨Tryz.call252 _,tg M m   aL bc first lY r hm w hS⟩

def fD (m : Nat) (aL : Str) (bc : Bool) (first : du) (lY : Str) (ld : Bool) (more : List Int) : Option (cu) :=
  Option.bind (jr m lY) fun y8 =>
  chk (ln kL4 + ln more ≤ 137438953472) <|
  lt (kL4 ++ more) fun q14 =>
  some (cu.mk aL bc first y8 q14 ld)
theorem sW {fq : Gh} (M : Av) (m : Nat) (aL : Str) (bc : Bool) (first : du) (lY : Str) (ld : Bool) (more : List Int) (r : cu) (hm : fD m aL bc first lY ld more = some r) (w : World) (hS : S0 M [eI (tI .u8) more fq,gE4] w) : Calls Tryz.prog 253 ⟨[vS aL,vB bc,.agg ⟨e20 first⟩,vS lY,vB ld,vL fq more]⟩ w (fun e w' => ∃ v,e = .returned v ∧ ∃ (aA : Gh) (cY : Gh),v = .agg ⟨e21 r (gL [aA,cY])⟩ ∧ SH M (fpl [eI (tI .u8) more fq,gE4]) w [eO 9 tS r.cB aA,eO 5 (tI .u8) r.cD cY] w'):=by
 rw [fD] at hm
 have hS0 : SH M (fpl [eI (tI .u8) more fq,gE4]) w [eI (tI .u8) more fq,gE4] w:=hS
 generalize hX : fpl [eI (tI .u8) more fq,gE4] = X at hS0 ⊢
 clear hS hX
 have hS:=hS0
 clear hS0
 refine calls_entryP Tryz.func253 rfl Tryz.ntmps253 rfl fun _ H => ?_
 refine t_in H hS (t_starts ?_)
 refine t_m [] [0,1] [0,1,3,4,5] [vS aL,vB bc,vS lY,vB ld,vL fq more] (fun _ _ H hd => o_box (e20 first) H hd rfl rfl) fun b1 => ?_
 refine t_m [] [0,1,2] [0,1,3,4,5,8] [vS aL,vB bc,vS lY,vB ld,vL fq more,vP b1] (fun _ _ H3 hd => o_alloc [vN,vF,vU 0,vN,vI 0,vU 0,vU 0,vU 0,vU 0,vO,vO,vF] (z:=vG [vN,vF,vU 0,vN,vI 0,vU 0,vU 0,vU 0,vU 0,vO,vO,vF]) hd (by kernel_rfl) rfl) fun b4 => (t_end ?_)
 obtain ⟨y8,hy8,hm⟩:=bindE hm
 obtain ⟨ho13,hm⟩:=chkE hm
 obtain ⟨q14,hq14,hm⟩:=letE hm
 intro _ _ H6 hS
 refine s_dS (base:=(fS [0,1,3,4,5,8,12] [vS aL,vB bc,vS lY,vB ld,vL fq more,vP b1,vP b4])) (L:=[eB b4 [vN,vF,vU 0,vN,vI 0,vU 0,vU 0,vU 0,vU 0,vO,vO,vF],eB b1 (e20 first),eI (tI .u8) more fq,gE4]) 11 4 (fun yg7 => [vS aL,vB bc,.agg ⟨e20 first⟩,vS lY,.slice (yg7 4 0).a y8.length (yg7 4 0).c,vK (yg7 5 0) 3,vL fq more,.slice (yg7 7 0).a q14.length (yg7 7 0).c,vB ld,vG [vS aL,vB bc,vU first.aj,vS first.jz,vI first.Num,vU first.aX.Red,vU first.aX.dp,vU first.aX.f5,vU first.aX.dq,.slice (yg7 4 0).a y8.length (yg7 4 0).c,.slice (yg7 7 0).a q14.length (yg7 7 0).c,vB ld],undef]) (fun yg7 => [[],[],[],[],[eO 9 tS y8 (yg7 4 0)],[eO 5 (tI .u8) kL4 (yg7 5 0)],[],[eO 5 (tI .u8) q14 (yg7 7 0)],[],[],[eB b4 [vS aL,vB bc,vU first.aj,vS first.jz,vI first.Num,vU first.aX.Red,vU first.aX.dp,vU first.aX.f5,vU first.aX.dq,.slice (yg7 4 0).a y8.length (yg7 4 0).c,.slice (yg7 7 0).a q14.length (yg7 7 0).c,vB ld]]]) [[],[],[12],[],[14],[],[],[5,13],[],[4,7],[4,7,11]] [[],[],[],[],[],[],[],[5],[],[],[11]] [[0],[1],[2],[3],[3,4],[5],[6],[5,6,7],[8],[0,1,2,3,4,5,6,7,8,9],[0,1,2,3,4,5,6,7,8,9,10]] [] (FrG.keep (ks:=[0,1,3,4,5,8,12]) H6 (by kernel_rfl)) (fun _ _ h => by cases h) (by kernel_rfl) hS (by kernel_rfl) rfl rfl (by kernel_rfl) (by kernel_rfl) (by kernel_rfl) (gd_none (by kernel_rfl) _ _) ?hstep_yg7 fun _ _ yg7 H17 hv hS => ?hK_yg7
 case hstep_yg7 =>
  refine ⟨se0,se0,(se (fun _ _ => [⟨some (.agg ⟨e20 first⟩),fun wz => V.atN b1 0 (e20 first) 0 wz,fun _ hS => ((hS.bk 0 rfl).atD rfl)⟩])),se0,?_,?_,se0,?_,se0,se0,?_,trivial⟩
  ·intro o ho a w yg7 M Hb hv hO hS0
   obtain rfl:=someE ho
   have H:=(Hb).add (hv 3 (by decide) (by decide) 16 rfl)
   have hS:=hS0
   have hd:=hS.hand [0] [0] rfl rfl
   refine Stp.mono (o_callx H rfl rfl (mn m _ _ hy8 _ _ hd)) ?_
   rintro v w2 hq
   obtain ⟨g9,rfl,hq⟩:=hq
   replace hS:=hS.join [0] [0] rfl rfl hq
   exact ⟨gL [g9],fun _ _ => rfl,hS.sel [0,1] rfl⟩
  ·intro o ho a w yg7 M Hb hv hO hS0
   obtain rfl:=someE ho
   have H:=Hb
   have hS:=hS0
   have hd:=hS.hand [] [] rfl rfl
   refine Stp.mono (o_li (T:=(tI .u8)) (E:=5) (zv:=vU 0) [vU 2,vU 3,vU 4] kL4 [gL [],gL [],gL []] H hd rfl (InnL.cons trivial (InnL.cons trivial (InnL.cons trivial InnL.nil)))) ?_
   rintro v w2 hq
   obtain ⟨g11,rfl,hq⟩:=hq
   replace hS:=hS.join [] [] rfl rfl hq
   exact ⟨gL [g11],fun _ _ => rfl,hS.sel [0] rfl⟩
  ·intro o ho a w yg7 M Hb hv hO hS0
   obtain rfl:=someE ho
   have H:=((Hb).add (hv 5 (by decide) (by decide) 18 rfl)).add (hv 6 (by decide) (by decide) 19 rfl)
   have hS:=hS0
   have hd:=hS.hand [0,1] [1] rfl rfl
   refine Stp.mono (o_app (T:=(tI .u8)) (zv:=vU 0) (g1:=(yg7 5 0)) (g2:=fq) (l1:=kL4) (l2:=more) q14 hq14.symm H hd rfl rfl rfl rfl rfl rfl rfl (by kernel_rfl) (by kernel_rfl) rfl rfl ho13) ?_
   rintro v w2 hq
   obtain ⟨g15,rfl,hq⟩:=hq
   replace hS:=hS.join [0,1] [1] rfl rfl hq
   exact ⟨gL [g15],fun _ _ => rfl,hS.sel [0,1] rfl⟩
  ·intro o ho a w yg7 M Hb hv hO hS0
   obtain rfl:=someE ho
   have H:=(Hb).add (hv 9 (by decide) (by decide) 22 rfl)
   have hS:=hS0
   have hd:=hS.hand [2] [0,1] rfl rfl
   refine Stp.mono (o_store [vS aL,vB bc,vU first.aj,vS first.jz,vI first.Num,vU first.aX.Red,vU first.aX.dp,vU first.aX.f5,vU first.aX.dq,.slice (yg7 4 0).a y8.length (yg7 4 0).c,.slice (yg7 7 0).a q14.length (yg7 7 0).c,vB ld] H hd rfl rfl (by kernel_rfl) rfl rfl rfl) ?_
   rintro v w2 hq
   replace hS:=hS.join [2] [0,1] rfl rfl hq
   exact ⟨gL [],(fun _ h => by cases h),hS.sel [0,1,2] rfl⟩
 have H18 : Fr 23 [(12,[],vP b4)] _:=(FrG.keep (ks:=[12]) H17 (by kernel_rfl))
 replace hS : SH M X w [eO 9 tS y8 (yg7 4 0),eO 5 (tI .u8) q14 (yg7 7 0),eB b4 [vS aL,vB bc,vU first.aj,vS first.jz,vI first.Num,vU first.aX.Red,vU first.aX.dp,vU first.aX.f5,vU first.aX.dq,.slice (yg7 4 0).a y8.length (yg7 4 0).c,.slice (yg7 7 0).a q14.length (yg7 7 0).c,vB ld],eB b1 (e20 first),eI (tI .u8) more fq,gE4] _:=hS
 clear hv H17
 generalize yg7 4 0 = g19 at H18 hS
 generalize yg7 7 0 = g20 at H18 hS
 replace hS:=hS.sel [0,1,2,5] rfl
 refine t_in H18 hS (t_ret ?_)
 obtain rfl:=someE hm
 exact fun _ _ H18 hS => retR1 H18 rfl (oneRes_agg rfl (hS.bk 2 rfl) Tryz.underlying281 rfl (by kernel_rfl)) ⟨_,rfl,g19,g20,rfl,(hS.sel [0,1] rfl)⟩
theorem gA {fq : Gh} (m : Nat) (aL : Str) (bc : Bool) (first : du) (lY : Str) (ld : Bool) (more : List Int) (r : cu) (hm : fD m aL bc first lY ld more = some r) (M : Av) (w : World) (hS : S0 M [eI (tI .u8) more fq,gE4] w) : DoesX Tryz.prog 253 ⟨[vS aL,vB bc,.agg ⟨e20 first⟩,vS lY,vB ld,vL fq more]⟩ w (fun v w' => ∃ (aA : Gh) (cY : Gh),v = .agg ⟨e21 r (gL [aA,cY])⟩ ∧ SH M (fpl [eI (tI .u8) more fq,gE4]) w [eO 9 tS r.cB aA,eO 5 (tI .u8) r.cD cY] w'):=⟨Tryz.call253 _,sW M m   aL bc first lY ld more r hm w hS⟩

def jB (m : Nat)  : Nat → (List cu) → Int → Option (List cu)
  | 0,_,_ => none
  | kk + 1,v88,v90 =>
    cond (decide (v90 < 4)) (
    chk (0 ≤ v90 ∧ v90 < ln kL2) <|
    lt ((gi kL2 v90)) fun x94 =>
    chk (ln [109,97,114,103,105,110,45] + ln x94 ≤ 9223372036854775807) <|
    Option.bind (fD m ([109,97,114,103,105,110,45] ++ x94) false (du.mk 2 [] 0 (d0.mk 0 0 0 0)) [97,117,116,111] false []) fun y101 =>
    chk (ln v88 + ln ([y101] : List cu) ≤ 137438953472) <|
    lt (v88 ++ ([y101] : List cu)) fun q113 =>
    jB m  kk q113 (w64 (v90 + 1))) (
    some v88)
def kR (m : Nat)  : Option (List cu) :=
  lt (jP [97,117,116,111]) fun y3 =>
  lt (hQ [99,111,108,111,114] true (du.mk 7 [] 0 (d0.mk 0 0 0 255))) fun y17 =>
  lt (hQ [98,97,99,107,103,114,111,117,110,100,45,99,111,108,111,114] false (du.mk 7 [] 0 (d0.mk 0 0 0 0))) fun y22 =>
  lt (hQ [98,111,114,100,101,114,45,99,111,108,111,114] false (du.mk 8 [] 0 (d0.mk 0 0 0 0))) fun y27 =>
  lt (hQ [111,117,116,108,105,110,101,45,99,111,108,111,114] false (du.mk 8 [] 0 (d0.mk 0 0 0 0))) fun y32 =>
  Option.bind (iY m [100,105,115,112,108,97,121] false [105,110,108,105,110,101] [98,108,111,99,107,32,102,108,101,120,32,105,110,108,105,110,101,32,105,110,108,105,110,101,45,98,108,111,99,107,32,110,111,110,101]) fun y37 =>
  Option.bind (iY m [118,105,115,105,98,105,108,105,116,121] true [118,105,115,105,98,108,101] [99,111,108,108,97,112,115,101,32,104,105,100,100,101,110,32,118,105,115,105,98,108,101]) fun y42 =>
  Option.bind (fD m [119,105,100,116,104] false y3 [97,117,116,111] true []) fun y48 =>
  Option.bind (fD m [104,101,105,103,104,116] false y3 [97,117,116,111] true []) fun y54 =>
  Option.bind (
  jB m  m ([y17,y22,y27,y32,y37,y42,y48,y54] : List cu) 0) fun (z81 : List cu) =>
  Option.bind (fD m [102,111,110,116,45,115,105,122,101] true (du.mk 2 [] 16000 (d0.mk 0 0 0 0)) [] true []) fun y126 =>
  lt (jP [110,111,114,109,97,108]) fun y131 =>
  Option.bind (fD m [108,105,110,101,45,104,101,105,103,104,116] true y131 [110,111,114,109,97,108] true ([5] : List Int)) fun y134 =>
  Option.bind (iY m [116,101,120,116,45,97,108,105,103,110] true [108,101,102,116] [99,101,110,116,101,114,32,106,117,115,116,105,102,121,32,108,101,102,116,32,114,105,103,104,116]) fun y139 =>
  chk (ln z81 + ln ([y126,y134,y139,(cu.mk [111,112,97,99,105,116,121] false (du.mk 5 [] 1000 (d0.mk 0 0 0 0)) [] ([5] : List Int) false),(cu.mk [122,45,105,110,100,101,120] false y3 kL1 ([6] : List Int) false),(cu.mk [111,114,100,101,114] false (du.mk 6 [] 0 (d0.mk 0 0 0 0)) [] ([6] : List Int) false)] : List cu) ≤ 137438953472) <|
  lt (z81 ++ ([y126,y134,y139,(cu.mk [111,112,97,99,105,116,121] false (du.mk 5 [] 1000 (d0.mk 0 0 0 0)) [] ([5] : List Int) false),(cu.mk [122,45,105,110,100,101,120] false y3 kL1 ([6] : List Int) false),(cu.mk [111,114,100,101,114] false (du.mk 6 [] 0 (d0.mk 0 0 0 0)) [] ([6] : List Int) false)] : List cu)) fun q155 =>
  some q155
theorem lM  (m : Nat)  (r : List cu) (hm : kR m = some r) : DoesM Tryz.prog 213 ⟨[]⟩ [gE4] (fun (aA : Gh) => vL aA r) (fun aA => [eO 281 fg r aA]):=by
 rw [kR] at hm
 refine f_mem (Tryz.call213 _) Tryz.func213 Tryz.ntmps213 fun M X w => ?_
 refine t_r [] [] [] (t_starts ?_)
 obtain ⟨y3,hy3,hm⟩:=letE hm
 refine t_b 2 [6,7] [.agg ⟨e20 y3⟩,vG [vU 2,vN,vI 0,vU 0,vU 0,vU 0,vU 0]] [⟨some (.agg ⟨e20 y3⟩),rB 250 [vS [97,117,116,111]] (.agg ⟨e20 y3⟩),fun _ _ => ((by rw [hy3]; exact (mK [97,117,116,111]).b))⟩] ?_ (he:=by subst hy3; kernel_rfl)
 refine t_m [] [0] [6,7] [.agg ⟨e20 y3⟩,vG [vU 2,vN,vI 0,vU 0,vU 0,vU 0,vU 0]] (fun _ _ H5 hd => o_alloc [vU 0,vN,vI 0,vU 0,vU 0,vU 0,vU 0] (z:=vG [vU 0,vN,vI 0,vU 0,vU 0,vU 0,vU 0]) hd (by kernel_rfl) rfl) fun b6 => ?_
 refine t_m [] [0,1] [1,6,7] [vP b6,.agg ⟨e20 y3⟩,vG [vU 2,vN,vI 0,vU 0,vU 0,vU 0,vU 0]] (fun _ _ H8 hd => o_alloc [vU 0,vN,vI 0,vU 0,vU 0,vU 0,vU 0] (z:=vG [vU 0,vN,vI 0,vU 0,vU 0,vU 0,vU 0]) hd (by kernel_rfl) rfl) fun b9 => ?_
 refine t_m0 [1] [0,2] [1,2,7] [vP b6,vP b9,vG [vU 2,vN,vI 0,vU 0,vU 0,vU 0,vU 0]] (fun _ _ H11 hd => o_store (e20 y3) H11 hd rfl rfl (by kernel_rfl) rfl rfl rfl) ?_
 refine t_m0 [1] [0,2] [1,2] [vP b6,vP b9] (fun _ _ H13 hd => o_store [vU 2,vN,vI 0,vU 0,vU 0,vU 0,vU 0] H13 hd rfl rfl (by kernel_rfl) rfl rfl rfl) (t_end ?_)
 obtain ⟨y17,hy17,hm⟩:=letE hm
 obtain ⟨y22,hy22,hm⟩:=letE hm
 obtain ⟨y27,hy27,hm⟩:=letE hm
 obtain ⟨y32,hy32,hm⟩:=letE hm
 obtain ⟨y37,hy37,hm⟩:=bindE hm
 obtain ⟨y42,hy42,hm⟩:=bindE hm
 obtain ⟨y48,hy48,hm⟩:=bindE hm
 obtain ⟨y54,hy54,hm⟩:=bindE hm
 intro _ _ H15 hS
 refine s_dS (base:=(fS [1,2] [vP b6,vP b9])) (L:=[eB b9 [vU 2,vN,vI 0,vU 0,vU 0,vU 0,vU 0],eB b6 (e20 y3),gE4]) 17 3 (fun yg16 => [vG [vU 0,vU 0,vU 0,vU 255],vG [vU 7,vN,vI 0,vU 0,vU 0,vU 0,vU 255],.agg ⟨e21 y17 (yg16 2)⟩,vG [vU 7,vN,vI 0,vU 0,vU 0,vU 0,vU 0],.agg ⟨e21 y22 (yg16 4)⟩,vG [vU 8,vN,vI 0,vU 0,vU 0,vU 0,vU 0],.agg ⟨e21 y27 (yg16 6)⟩,vG [vU 8,vN,vI 0,vU 0,vU 0,vU 0,vU 0],.agg ⟨e21 y32 (yg16 8)⟩,.agg ⟨e21 y37 (yg16 9)⟩,.agg ⟨e21 y42 (yg16 10)⟩,.agg ⟨e20 y3⟩,.agg ⟨e21 y48 (yg16 12)⟩,.agg ⟨e20 y3⟩,.agg ⟨e21 y54 (yg16 14)⟩,vK (yg16 15 0) 8,vK (yg16 15 0) 8]) (fun yg16 => [[],[],[eO 9 tS y17.cB (yg16 2 0),eO 5 (tI .u8) y17.cD (yg16 2 1)],[],[eO 9 tS y22.cB (yg16 4 0),eO 5 (tI .u8) y22.cD (yg16 4 1)],[],[eO 9 tS y27.cB (yg16 6 0),eO 5 (tI .u8) y27.cD (yg16 6 1)],[],[eO 9 tS y32.cB (yg16 8 0),eO 5 (tI .u8) y32.cD (yg16 8 1)],[eO 9 tS y37.cB (yg16 9 0),eO 5 (tI .u8) y37.cD (yg16 9 1)],[eO 9 tS y42.cB (yg16 10 0),eO 5 (tI .u8) y42.cD (yg16 10 1)],[],[eO 9 tS y48.cB (yg16 12 0),eO 5 (tI .u8) y48.cD (yg16 12 1),eI (tI .u8) ([] : List Int) (.nil)],[],[eO 9 tS y54.cB (yg16 14 0),eO 5 (tI .u8) y54.cD (yg16 14 1),eI (tI .u8) ([] : List Int) (.nil)],[eO 281 fg ([y17,y22,y27,y32,y37,y42,y48,y54] : List cu) (yg16 15 0),eI (tI .u8) y54.cD (yg16 14 1),eI tS y54.cB (yg16 14 0),eI (tI .u8) y48.cD (yg16 12 1),eI tS y48.cB (yg16 12 0),eI (tI .u8) y42.cD (yg16 10 1),eI tS y42.cB (yg16 10 0),eI (tI .u8) y37.cD (yg16 9 1),eI tS y37.cB (yg16 9 0),eI (tI .u8) y32.cD (yg16 8 1),eI tS y32.cB (yg16 8 0),eI (tI .u8) y27.cD (yg16 6 1),eI tS y27.cB (yg16 6 0),eI (tI .u8) y22.cD (yg16 4 1),eI tS y22.cB (yg16 4 0),eI (tI .u8) y17.cD (yg16 2 1),eI tS y17.cB (yg16 2 0),eI (tI .u8) ([] : List Int) (.nil),eI (tI .u8) ([] : List Int) (.nil)],[]]) [[],[],[],[],[],[],[],[],[],[19],[19],[18],[19],[18],[19],[2,4,6,8,9,10,12,14],[15]] [[],[],[],[],[],[],[],[],[],[],[],[],[],[],[],[2,4,6,8,9,10,12,14],[]] [[0],[0,1],[0,1,2],[3],[3,4],[5],[5,6],[7],[7,8],[9],[10],[11],[11,12],[13],[13,14],[0,1,2,3,4,5,6,7,8,9,10,11,12,13,14,15],[0,1,2,3,4,5,6,7,8,9,10,11,12,13,14,15,16]] [] (FrG.keep (ks:=[1,2]) H15 (by kernel_rfl)) (fun _ _ h => by cases h) (by kernel_rfl) hS (by kernel_rfl) rfl rfl (by kernel_rfl) (by kernel_rfl) (by kernel_rfl) (gd_none (by kernel_rfl) _ _) ?hstep_yg16 fun _ _ yg16 H62 hv hS => ?hK_yg16
 case hstep_yg16 =>
  refine ⟨se0,se0,?_,se0,?_,se0,?_,se0,?_,?_,?_,(se (fun _ _ => [⟨some (.agg ⟨e20 y3⟩),fun wz => V.atN b6 0 (e20 y3) 0 wz,fun _ hS => ((hS.bk 0 rfl).atD rfl)⟩])),?_,(se (fun _ _ => [⟨some (.agg ⟨e20 y3⟩),fun wz => V.atN b6 0 (e20 y3) 0 wz,fun _ hS => ((hS.bk 0 rfl).atD rfl)⟩])),?_,?_,se0,trivial⟩
  ·intro o ho a w yg16 M Hb hv hO hS0
   obtain rfl:=someE ho
   have H:=(Hb).add (hv 1 (by decide) (by decide) 9 rfl)
   have hS:=hS0
   have hd:=hS.hand [] [] rfl rfl
   refine Stp.mono (o_callx H rfl rfl (jd _ _ _ _ hy17.symm _ _ hd)) ?_
   rintro v w2 hq
   obtain ⟨g18,g20,rfl,hq⟩:=hq
   replace hS:=hS.join [] [] rfl rfl hq
   exact ⟨gL [g18,g20],fun _ _ => rfl,hS.sel [0,1] rfl⟩
  ·intro o ho a w yg16 M Hb hv hO hS0
   obtain rfl:=someE ho
   have H:=(Hb).add (hv 3 (by decide) (by decide) 11 rfl)
   have hS:=hS0
   have hd:=hS.hand [] [] rfl rfl
   refine Stp.mono (o_callx H rfl rfl (jd _ _ _ _ hy22.symm _ _ hd)) ?_
   rintro v w2 hq
   obtain ⟨g23,g25,rfl,hq⟩:=hq
   replace hS:=hS.join [] [] rfl rfl hq
   exact ⟨gL [g23,g25],fun _ _ => rfl,hS.sel [0,1] rfl⟩
  ·intro o ho a w yg16 M Hb hv hO hS0
   obtain rfl:=someE ho
   have H:=(Hb).add (hv 5 (by decide) (by decide) 13 rfl)
   have hS:=hS0
   have hd:=hS.hand [] [] rfl rfl
   refine Stp.mono (o_callx H rfl rfl (jd _ _ _ _ hy27.symm _ _ hd)) ?_
   rintro v w2 hq
   obtain ⟨g28,g30,rfl,hq⟩:=hq
   replace hS:=hS.join [] [] rfl rfl hq
   exact ⟨gL [g28,g30],fun _ _ => rfl,hS.sel [0,1] rfl⟩
  ·intro o ho a w yg16 M Hb hv hO hS0
   obtain rfl:=someE ho
   have H:=(Hb).add (hv 7 (by decide) (by decide) 15 rfl)
   have hS:=hS0
   have hd:=hS.hand [] [] rfl rfl
   refine Stp.mono (o_callx H rfl rfl (jd _ _ _ _ hy32.symm _ _ hd)) ?_
   rintro v w2 hq
   obtain ⟨g33,g35,rfl,hq⟩:=hq
   replace hS:=hS.join [] [] rfl rfl hq
   exact ⟨gL [g33,g35],fun _ _ => rfl,hS.sel [0,1] rfl⟩
  ·intro o ho a w yg16 M Hb hv hO hS0
   obtain rfl:=someE ho
   have H:=Hb
   have hS:=hS0
   have hd:=hS.hand [0] [0] rfl rfl
   refine Stp.mono (o_callx H rfl rfl (m9 m _ _ _ _ _ hy37 _ _ hd)) ?_
   rintro v w2 hq
   obtain ⟨g38,g40,rfl,hq⟩:=hq
   replace hS:=hS.join [0] [0] rfl rfl hq
   exact ⟨gL [g38,g40],fun _ _ => rfl,hS.sel [0,1,2] rfl⟩
  ·intro o ho a w yg16 M Hb hv hO hS0
   obtain rfl:=someE ho
   have H:=Hb
   have hS:=hS0
   have hd:=hS.hand [0] [0] rfl rfl
   refine Stp.mono (o_callx H rfl rfl (m9 m _ _ _ _ _ hy42 _ _ hd)) ?_
   rintro v w2 hq
   obtain ⟨g43,g45,rfl,hq⟩:=hq
   replace hS:=hS.join [0] [0] rfl rfl hq
   exact ⟨gL [g43,g45],fun _ _ => rfl,hS.sel [0,1,2] rfl⟩
  ·intro o ho a w yg16 M Hb hv hO hS0
   obtain rfl:=someE ho
   have H:=(Hb).add (hv 11 (by decide) (by decide) 19 rfl)
   have hS:=hS0
   replace hS:=hS.addNil 5 (tI .u8)
   replace hS:=SH.frz1 (hS.sel [0,1] rfl)
   have hd:=hS.hand [0,1] [0,1] rfl rfl
   refine Stp.mono (o_callx H rfl rfl (gA (fq:=Gh.nil) m _ _ _ _ _ _ _ hy48 _ _ hd)) ?_
   rintro v w2 hq
   obtain ⟨g49,g51,rfl,hq⟩:=hq
   replace hS:=hS.join [0,1] [0,1] rfl rfl hq
   exact ⟨gL [g49,g51],fun _ _ => rfl,hS.sel [0,1,2,3] rfl⟩
  ·intro o ho a w yg16 M Hb hv hO hS0
   obtain rfl:=someE ho
   have H:=(Hb).add (hv 13 (by decide) (by decide) 21 rfl)
   have hS:=hS0
   replace hS:=hS.addNil 5 (tI .u8)
   replace hS:=SH.frz1 (hS.sel [0,1] rfl)
   have hd:=hS.hand [0,1] [0,1] rfl rfl
   refine Stp.mono (o_callx H rfl rfl (gA (fq:=Gh.nil) m _ _ _ _ _ _ _ hy54 _ _ hd)) ?_
   rintro v w2 hq
   obtain ⟨g55,g57,rfl,hq⟩:=hq
   replace hS:=hS.join [0,1] [0,1] rfl rfl hq
   exact ⟨gL [g55,g57],fun _ _ => rfl,hS.sel [0,1,2,3] rfl⟩
  ·intro o ho a w yg16 M Hb hv hO hS0
   obtain rfl:=someE ho
   have H:=((((((((Hb).add (hv 2 (by decide) (by decide) 10 rfl)).add (hv 4 (by decide) (by decide) 12 rfl)).add (hv 6 (by decide) (by decide) 14 rfl)).add (hv 8 (by decide) (by decide) 16 rfl)).add (hv 9 (by decide) (by decide) 17 rfl)).add (hv 10 (by decide) (by decide) 18 rfl)).add (hv 12 (by decide) (by decide) 20 rfl)).add (hv 14 (by decide) (by decide) 22 rfl)
   have hS:=hS0
   replace hS:=SH.frz1 (hS.sel [0,1,2,3,4,5,6,7,8,9,10,11,12,13,14,15,16,17] rfl)
   replace hS:=SH.frz1 (hS.sel [1,0,2,3,4,5,6,7,8,9,10,11,12,13,14,15,16,17] rfl)
   replace hS:=SH.frz1 (hS.sel [2,0,1,3,4,5,6,7,8,9,10,11,12,13,14,15,16,17] rfl)
   replace hS:=SH.frz1 (hS.sel [3,0,1,2,4,5,6,7,8,9,10,11,12,13,14,15,16,17] rfl)
   replace hS:=SH.frz1 (hS.sel [4,0,1,2,3,5,6,7,8,9,10,11,12,13,14,15,16,17] rfl)
   replace hS:=SH.frz1 (hS.sel [5,0,1,2,3,4,6,7,8,9,10,11,12,13,14,15,16,17] rfl)
   replace hS:=SH.frz1 (hS.sel [6,0,1,2,3,4,5,7,8,9,10,11,12,13,14,15,16,17] rfl)
   replace hS:=SH.frz1 (hS.sel [7,0,1,2,3,4,5,6,8,9,10,11,12,13,14,15,16,17] rfl)
   replace hS:=SH.frz1 (hS.sel [8,0,1,2,3,4,5,6,7,9,10,11,12,13,14,15,16,17] rfl)
   replace hS:=SH.frz1 (hS.sel [9,0,1,2,3,4,5,6,7,8,10,11,12,13,14,15,16,17] rfl)
   replace hS:=SH.frz1 (hS.sel [10,0,1,2,3,4,5,6,7,8,9,11,12,13,14,15,16,17] rfl)
   replace hS:=SH.frz1 (hS.sel [11,0,1,2,3,4,5,6,7,8,9,10,12,13,14,15,16,17] rfl)
   replace hS:=SH.frz1 (hS.sel [12,0,1,2,3,4,5,6,7,8,9,10,11,13,14,15,16,17] rfl)
   replace hS:=SH.frz1 (hS.sel [13,0,1,2,3,4,5,6,7,8,9,10,11,12,14,15,16,17] rfl)
   replace hS:=SH.frz1 (hS.sel [15,0,1,2,3,4,5,6,7,8,9,10,11,12,13,14,16,17] rfl)
   replace hS:=SH.frz1 (hS.sel [16,0,1,2,3,4,5,6,7,8,9,10,11,12,13,14,15,17] rfl)
   have hd:=hS.hand [15,14,13,12,11,10,9,8,7,6,5,4,3,2,1,0] [0,1,2,3,4,5,6,7,8,9,10,11,12,13,14,15,16,17] rfl rfl
   refine Stp.mono (o_li (T:=fg) (E:=281) (zv:=vG [vN,vF,vU 0,vN,vI 0,vU 0,vU 0,vU 0,vU 0,vO,vO,vF]) [vS y17.bA,vB y17.f1,vU y17.aO.aj,vS y17.aO.jz,vI y17.aO.Num,vU y17.aO.aX.Red,vU y17.aO.aX.dp,vU y17.aO.aX.f5,vU y17.aO.aX.dq,.slice (yg16 2 0).a y17.cB.length (yg16 2 0).c,.slice (yg16 2 1).a y17.cD.length (yg16 2 1).c,vB y17.mj,vS y22.bA,vB y22.f1,vU y22.aO.aj,vS y22.aO.jz,vI y22.aO.Num,vU y22.aO.aX.Red,vU y22.aO.aX.dp,vU y22.aO.aX.f5,vU y22.aO.aX.dq,.slice (yg16 4 0).a y22.cB.length (yg16 4 0).c,.slice (yg16 4 1).a y22.cD.length (yg16 4 1).c,vB y22.mj,vS y27.bA,vB y27.f1,vU y27.aO.aj,vS y27.aO.jz,vI y27.aO.Num,vU y27.aO.aX.Red,vU y27.aO.aX.dp,vU y27.aO.aX.f5,vU y27.aO.aX.dq,.slice (yg16 6 0).a y27.cB.length (yg16 6 0).c,.slice (yg16 6 1).a y27.cD.length (yg16 6 1).c,vB y27.mj,vS y32.bA,vB y32.f1,vU y32.aO.aj,vS y32.aO.jz,vI y32.aO.Num,vU y32.aO.aX.Red,vU y32.aO.aX.dp,vU y32.aO.aX.f5,vU y32.aO.aX.dq,.slice (yg16 8 0).a y32.cB.length (yg16 8 0).c,.slice (yg16 8 1).a y32.cD.length (yg16 8 1).c,vB y32.mj,vS y37.bA,vB y37.f1,vU y37.aO.aj,vS y37.aO.jz,vI y37.aO.Num,vU y37.aO.aX.Red,vU y37.aO.aX.dp,vU y37.aO.aX.f5,vU y37.aO.aX.dq,.slice (yg16 9 0).a y37.cB.length (yg16 9 0).c,.slice (yg16 9 1).a y37.cD.length (yg16 9 1).c,vB y37.mj,vS y42.bA,vB y42.f1,vU y42.aO.aj,vS y42.aO.jz,vI y42.aO.Num,vU y42.aO.aX.Red,vU y42.aO.aX.dp,vU y42.aO.aX.f5,vU y42.aO.aX.dq,.slice (yg16 10 0).a y42.cB.length (yg16 10 0).c,.slice (yg16 10 1).a y42.cD.length (yg16 10 1).c,vB y42.mj,vS y48.bA,vB y48.f1,vU y48.aO.aj,vS y48.aO.jz,vI y48.aO.Num,vU y48.aO.aX.Red,vU y48.aO.aX.dp,vU y48.aO.aX.f5,vU y48.aO.aX.dq,.slice (yg16 12 0).a y48.cB.length (yg16 12 0).c,.slice (yg16 12 1).a y48.cD.length (yg16 12 1).c,vB y48.mj,vS y54.bA,vB y54.f1,vU y54.aO.aj,vS y54.aO.jz,vI y54.aO.Num,vU y54.aO.aX.Red,vU y54.aO.aX.dp,vU y54.aO.aX.f5,vU y54.aO.aX.dq,.slice (yg16 14 0).a y54.cB.length (yg16 14 0).c,.slice (yg16 14 1).a y54.cD.length (yg16 14 1).c,vB y54.mj] ([y17,y22,y27,y32,y37,y42,y48,y54] : List cu) [gL [(yg16 2 0),(yg16 2 1)],gL [(yg16 4 0),(yg16 4 1)],gL [(yg16 6 0),(yg16 6 1)],gL [(yg16 8 0),(yg16 8 1)],gL [(yg16 9 0),(yg16 9 1)],gL [(yg16 10 0),(yg16 10 1)],gL [(yg16 12 0),(yg16 12 1)],gL [(yg16 14 0),(yg16 14 1)]] H hd rfl (InnL.cons (eN (hd.im 0 rfl) (hd.im 1 rfl)) (InnL.cons (eN (hd.im 2 rfl) (hd.im 3 rfl)) (InnL.cons (eN (hd.im 4 rfl) (hd.im 5 rfl)) (InnL.cons (eN (hd.im 6 rfl) (hd.im 7 rfl)) (InnL.cons (eN (hd.im 8 rfl) (hd.im 9 rfl)) (InnL.cons (eN (hd.im 10 rfl) (hd.im 11 rfl)) (InnL.cons (eN (hd.im 12 rfl) (hd.im 13 rfl)) (InnL.cons (eN (hd.im 14 rfl) (hd.im 15 rfl)) InnL.nil))))))))) ?_
   rintro v w2 hq
   obtain ⟨g59,rfl,hq⟩:=hq
   replace hS:=hS.join [15,14,13,12,11,10,9,8,7,6,5,4,3,2,1,0] [0,1,2,3,4,5,6,7,8,9,10,11,12,13,14,15,16,17] rfl rfl hq
   exact ⟨gL [g59],fun _ _ => rfl,hS.sel [0,1,2,3,4,5,6,7,8,9,10,11,12,13,14,15,16,17,18] rfl⟩
 have H63 : Fr 57 (fS [3,1,2] [vK (yg16 15 0) 8,vP b6,vP b9]) _:=(FrG.add (FrG.keep (ks:=[1,2]) H62 (by kernel_rfl)) (hv 16 3 rfl))
 replace hS : SH M X w [eO 281 fg ([y17,y22,y27,y32,y37,y42,y48,y54] : List cu) (yg16 15 0),eI (tI .u8) y54.cD (yg16 14 1),eI tS y54.cB (yg16 14 0),eI (tI .u8) y48.cD (yg16 12 1),eI tS y48.cB (yg16 12 0),eI (tI .u8) y42.cD (yg16 10 1),eI tS y42.cB (yg16 10 0),eI (tI .u8) y37.cD (yg16 9 1),eI tS y37.cB (yg16 9 0),eI (tI .u8) y32.cD (yg16 8 1),eI tS y32.cB (yg16 8 0),eI (tI .u8) y27.cD (yg16 6 1),eI tS y27.cB (yg16 6 0),eI (tI .u8) y22.cD (yg16 4 1),eI tS y22.cB (yg16 4 0),eI (tI .u8) y17.cD (yg16 2 1),eI tS y17.cB (yg16 2 0),eI (tI .u8) ([] : List Int) (.nil),eI (tI .u8) ([] : List Int) (.nil),eB b9 [vU 2,vN,vI 0,vU 0,vU 0,vU 0,vU 0],eB b6 (e20 y3),gE4] _:=hS
 clear hv H62
 generalize yg16 15 0 = g64 at H63 hS
 generalize yg16 14 1 = g65 at H63 hS
 generalize yg16 14 0 = g66 at H63 hS
 generalize yg16 12 1 = g67 at H63 hS
 generalize yg16 12 0 = g68 at H63 hS
 generalize yg16 10 1 = g69 at H63 hS
 generalize yg16 10 0 = g70 at H63 hS
 generalize yg16 9 1 = g71 at H63 hS
 generalize yg16 9 0 = g72 at H63 hS
 generalize yg16 8 1 = g73 at H63 hS
 generalize yg16 8 0 = g74 at H63 hS
 generalize yg16 6 1 = g75 at H63 hS
 generalize yg16 6 0 = g76 at H63 hS
 generalize yg16 4 1 = g77 at H63 hS
 generalize yg16 4 0 = g78 at H63 hS
 generalize yg16 2 1 = g79 at H63 hS
 generalize yg16 2 0 = g80 at H63 hS
 replace hS:=hS.sel [0,19,20,21] rfl
 obtain ⟨z81,hz,hm⟩:=bindE hm
 refine t_in H63 hS ?_
 refine t_cutg [1,3] (fun (pv : Gh) => [vP b6,vL pv z81]) (fun pv => [eO 281 fg z81 pv,eB b9 [vU 2,vN,vI 0,vU 0,vU 0,vU 0,vU 0],eB b6 (e20 y3),gE4]) ?_ ?_
 ·replace hm:=hz
  refine t_starts ?_
  refine t_m [] [0,1,2,3] [1,2,3] [vP b6,vP b9,vK g64 8] (fun _ _ H63 hd => o_li (T:=tS) (E:=9) (zv:=vN) [vS [116,111,112],vS [114,105,103,104,116],vS [98,111,116,116,111,109],vS [108,101,102,116]] kL2 [gL [],gL [],gL [],gL []] H63 hd rfl (InnL.cons trivial (InnL.cons trivial (InnL.cons trivial (InnL.cons trivial InnL.nil))))) fun g82 => ?_
  refine t_b 3 [1,2,3,24,25,26] [vP b6,vP b9,vK g64 8,vK g82 4,vI 4,vI 0] [] (t_end (t_block ?_))
  intro _ _ H87 hS
  refine w_loop (fun kk a' w' => ∃ (v88 : List cu) (v90 : Int) (g89 : Gh),jB m  kk v88 v90 = some _ ∧ Fr 57 (fS [1,2,24,25,3,26] [vP b6,vP b9,vK g82 4,vI 4,vL g89 v88,vI v90]) a' ∧ SH M X w [eO 9 tS kL2 g82,eO 281 fg v88 g89,eB b9 [vU 2,vN,vI 0,vU 0,vU 0,vU 0,vU 0],eB b6 (e20 y3),gE4] w') ⟨_,([y17,y22,y27,y32,y37,y42,y48,y54] : List cu),0,g64,hm,FrG.keep (ks:=[1,2,24,25,3,26]) H87 (by kernel_rfl),hS⟩ ?_
  clear hm H87 hS
  rintro kk _ _ ⟨v88,v90,g89,hm,H,hS⟩
  cases kk with
  | zero => exact noneE hm
  | succ kk =>
   rw [jB] at hm
   refine t_in H hS ?_
   refine t_r [1,2,3,24,25,26,27] [vP b6,vP b9,vL g89 v88,vK g82 4,vI 4,vI v90,vB (decide (v90 < 4))] [] (t_seq ?_)
   refine t_im hm (fun hm => ?_) (fun hm => ?c121)
   case c121 =>
    refine t_exit ?_
    obtain rfl:=someE hm
    refine t_sel [1,2,3,4] ?_
    exact t_eg g89 [1,3]
   refine t_skip (t_seq (t_block ?_))
   obtain ⟨ho93,hm⟩:=chkE hm
   obtain ⟨x94,hx94,hm⟩:=letE hm
   refine t_r [1,2,3,5,24,25,26] [vP b6,vP b9,vL g89 v88,vS x94,vK g82 4,vI 4,vI v90] [kI 0 ho93,kJ 0 0 ho93] ?_ (he:=by subst hx94; kernel_rfl)
   refine t_start ?_
   obtain ⟨ho97,hm⟩:=chkE hm
   refine t_b 4 [1,2,24,25,26,30,32,33] [vP b6,vP b9,vK g82 4,vI 4,vI v90,vL g89 v88,vS ([109,97,114,103,105,110,45] ++ x94),vG [vU 2,vN,vI 0,vU 0,vU 0,vU 0,vU 0]] [kh ho97,⟨some (vG [vU 2,vN,vI 0,vU 0,vU 0,vU 0,vU 0]),rN b9 0 [vU 2,vN,vI 0,vU 0,vU 0,vU 0,vU 0],fun _ hS => ((hS.bk 2 rfl).atD rfl)⟩] ?_
   refine t_nil 5 (tI .u8) ?_
   refine t_frz [0,1,2,3,4,5] ?_
   obtain ⟨y101,hy101,hm⟩:=bindE hm
   intro _ _ H99 hS
   have hd:=hS.hand [0,5] [0,1,2,3,4,5] rfl rfl
   refine m_stp [34,1,2,24,25,26,30] (fS [1,2,24,25,26,30] [vP b6,vP b9,vK g82 4,vI 4,vI v90,vL g89 v88]) H99 rfl rfl rfl rfl (o_callx H99 rfl rfl (gA (fq:=Gh.nil) m _ _ _ _ _ _ _ hy101 _ _ hd)) (fun _ => rfl) fun _ _ v H107 hq => ?_
   obtain ⟨g102,g104,rfl,hq⟩:=hq
   replace hS:=hS.join [0,5] [0,1,2,3,4,5] rfl rfl hq
   replace hS:=SH.frz1 (hS.sel [0,1,2,3,4,5,6,7] rfl)
   replace hS:=SH.frz1 (hS.sel [1,0,2,3,4,5,6,7] rfl)
   refine t_in H107 hS ?_
   refine t_m [1,0] [0,1,2,3,4,5,6,7] [1,2,24,25,26,30] [vP b6,vP b9,vK g82 4,vI 4,vI v90,vL g89 v88] (fun _ _ H107 hd => o_li (T:=fg) (E:=281) (zv:=vG [vN,vF,vU 0,vN,vI 0,vU 0,vU 0,vU 0,vU 0,vO,vO,vF]) (e21 y101 (gL [g102,g104])) ([y101] : List cu) [gL [g102,g104]] H107 hd rfl (InnL.cons (eN (hd.im 0 rfl) (hd.im 1 rfl)) InnL.nil)) fun g108 => ?_
   obtain ⟨ho112,hm⟩:=chkE hm
   obtain ⟨q113,hq113,hm⟩:=letE hm
   refine t_m [5,0] [1,2,3,4,6,7,8] [1,2,24,25,26] [vP b6,vP b9,vK g82 4,vI 4,vI v90] (fun _ _ H111 hd => o_app2 (T:=fg) (zv:=vG [vN,vF,vU 0,vN,vI 0,vU 0,vU 0,vU 0,vU 0,vO,vO,vF]) (g1:=g89) (g2:=g108) (l1:=v88) (l2:=([y101] : List cu)) q113 hq113.symm H111 hd rfl rfl rfl rfl rfl rfl rfl (by kernel_rfl) (by kernel_rfl) rfl rfl ho112) fun nD => ?_
   refine t_b 8 [1,2,3,24,25,26] [vP b6,vP b9,vL nD q113,vK g82 4,vI 4,vI v90] [] (t_end (t_sel [0,5,6,7,8] ?_))
   refine t_w [1,2,3,24,25,26] [vP b6,vP b9,vL nD q113,vK g82 4,vI 4,vI (w64 (v90 + 1))] [] (t_sel [1,0,2,3,4] ?_)
   exact fun _ _ H120 hS => ⟨_,Nat.lt_succ_self _,q113,w64 (v90 + 1),nD,hm,FrG.keep (ks:=[1,2,24,25,3,26]) H120 (by kernel_rfl),hS⟩
 ·intro pv
  refine t_sel [0,2,3] ?_
  obtain ⟨y126,hy126,hm⟩:=bindE hm
  obtain ⟨y131,hy131,hm⟩:=letE hm
  obtain ⟨y134,hy134,hm⟩:=bindE hm
  obtain ⟨y139,hy139,hm⟩:=bindE hm
  obtain ⟨ho154,hm⟩:=chkE hm
  obtain ⟨q155,hq155,hm⟩:=letE hm
  intro _ _ H hS
  refine s_dS (base:=(fS [1,3] [vP b6,vL pv z81])) (L:=[eO 281 fg z81 pv,eB b6 (e20 y3),gE4]) 20 3 (fun yg124 => [vL pv z81,vG [vU 2,vN,vI 16000,vU 0,vU 0,vU 0,vU 0],.agg ⟨e21 y126 (yg124 2)⟩,.agg ⟨e20 y131⟩,vK (yg124 4 0) 1,.agg ⟨e21 y134 (yg124 5)⟩,.agg ⟨e21 y139 (yg124 6)⟩,vG [vU 5,vN,vI 1000,vU 0,vU 0,vU 0,vU 0],vK (yg124 8 0) 1,vG [vS [111,112,97,99,105,116,121],vF,vU 5,vN,vI 1000,vU 0,vU 0,vU 0,vU 0,vO,vK (yg124 8 0) 1,vF],.agg ⟨e20 y3⟩,vK (yg124 11 0) 1,vK (yg124 12 0) 1,vG [vS [122,45,105,110,100,101,120],vF,vU y3.aj,vS y3.jz,vI y3.Num,vU y3.aX.Red,vU y3.aX.dp,vU y3.aX.f5,vU y3.aX.dq,vK (yg124 11 0) 1,vK (yg124 12 0) 1,vF],vG [vU 6,vN,vI 0,vU 0,vU 0,vU 0,vU 0],vK (yg124 15 0) 1,vG [vS [111,114,100,101,114],vF,vU 6,vN,vI 0,vU 0,vU 0,vU 0,vU 0,vO,vK (yg124 15 0) 1,vF],vK (yg124 17 0) 6,.slice (yg124 18 0).a q155.length (yg124 18 0).c,.slice (yg124 18 0).a q155.length (yg124 18 0).c]) (fun yg124 => [[],[],[eO 9 tS y126.cB (yg124 2 0),eO 5 (tI .u8) y126.cD (yg124 2 1),eI (tI .u8) ([] : List Int) (.nil)],[],[eO 5 (tI .u8) ([5] : List Int) (yg124 4 0)],[eO 9 tS y134.cB (yg124 5 0),eO 5 (tI .u8) y134.cD (yg124 5 1),eI (tI .u8) ([5] : List Int) (yg124 4 0)],[eO 9 tS y139.cB (yg124 6 0),eO 5 (tI .u8) y139.cD (yg124 6 1)],[],[eO 5 (tI .u8) ([5] : List Int) (yg124 8 0)],[],[],[eO 9 tS kL1 (yg124 11 0)],[eO 5 (tI .u8) ([6] : List Int) (yg124 12 0)],[],[],[eO 5 (tI .u8) ([6] : List Int) (yg124 15 0)],[],[eO 281 fg ([y126,y134,y139,(cu.mk [111,112,97,99,105,116,121] false (du.mk 5 [] 1000 (d0.mk 0 0 0 0)) [] ([5] : List Int) false),(cu.mk [122,45,105,110,100,101,120] false y3 kL1 ([6] : List Int) false),(cu.mk [111,114,100,101,114] false (du.mk 6 [] 0 (d0.mk 0 0 0 0)) [] ([6] : List Int) false)] : List cu) (yg124 17 0),eI (tI .u8) ([6] : List Int) (yg124 15 0),eI (tI .u8) ([6] : List Int) (yg124 12 0),eI tS kL1 (yg124 11 0),eI (tI .u8) ([5] : List Int) (yg124 8 0),eI (tI .u8) y139.cD (yg124 6 1),eI tS y139.cB (yg124 6 0),eI (tI .u8) y134.cD (yg124 5 1),eI tS y134.cB (yg124 5 0),eI (tI .u8) y126.cD (yg124 2 1),eI tS y126.cB (yg124 2 0),eI (tI .u8) ([] : List Int) (.nil),eI (tI .u8) ([5] : List Int) (yg124 4 0)],[eO 281 fg q155 (yg124 18 0)],[]]) [[],[],[22],[],[],[4,22],[22],[],[],[8],[21],[],[],[11,12],[],[],[15],[2,5,6,8,11,12,15],[17,20],[18]] [[],[],[],[],[],[4],[],[],[],[],[],[],[],[],[],[],[],[2,5,6,8,11,12,15],[20],[]] [[0],[1],[1,2],[3],[4],[3,4,5],[6],[7],[8],[7,8,9],[10],[11],[12],[10,11,12,13],[14],[15],[14,15,16],[1,2,3,4,5,6,7,8,9,10,11,12,13,14,15,16,17],[0,1,2,3,4,5,6,7,8,9,10,11,12,13,14,15,16,17,18],[0,1,2,3,4,5,6,7,8,9,10,11,12,13,14,15,16,17,18,19]] [] (FrG.keep (ks:=[1,3]) H (by kernel_rfl)) (fun _ _ h => by cases h) (by kernel_rfl) hS (by kernel_rfl) rfl rfl (by kernel_rfl) (by kernel_rfl) (by kernel_rfl) (gd_none (by kernel_rfl) _ _) ?hstep_yg124 fun _ _ yg124 H158 hv hS => ?hK_yg124
  case hstep_yg124 =>
   refine ⟨se0,se0,?_,(se (fun _ _ => [⟨some (.agg ⟨e20 y131⟩),rB 250 [vS [110,111,114,109,97,108]] (.agg ⟨e20 y131⟩),fun _ _ => ((by rw [hy131]; exact (mK [110,111,114,109,97,108]).b))⟩]) (he:=by intros; subst hy131; kernel_rfl)),?_,?_,?_,se0,?_,se0,(se (fun _ _ => [⟨some (.agg ⟨e20 y3⟩),fun wz => V.atN b6 0 (e20 y3) 0 wz,fun _ hS => ((hS.bk 0 rfl).atD rfl)⟩])),?_,?_,se0,se0,?_,se0,?_,?_,se0,trivial⟩
   ·intro o ho a w yg124 M Hb hv hO hS0
    obtain rfl:=someE ho
    have H:=(Hb).add (hv 1 (by decide) (by decide) 39 rfl)
    have hS:=hS0
    replace hS:=hS.addNil 5 (tI .u8)
    replace hS:=SH.frz1 (hS.sel [0,1] rfl)
    have hd:=hS.hand [0,1] [0,1] rfl rfl
    refine Stp.mono (o_callx H rfl rfl (gA (fq:=Gh.nil) m _ _ _ _ _ _ _ hy126 _ _ hd)) ?_
    rintro v w2 hq
    obtain ⟨g127,g129,rfl,hq⟩:=hq
    replace hS:=hS.join [0,1] [0,1] rfl rfl hq
    exact ⟨gL [g127,g129],fun _ _ => rfl,hS.sel [0,1,2,3] rfl⟩
   ·intro o ho a w yg124 M Hb hv hO hS0
    obtain rfl:=someE ho
    have H:=Hb
    have hS:=hS0
    have hd:=hS.hand [] [] rfl rfl
    refine Stp.mono (o_li (T:=(tI .u8)) (E:=5) (zv:=vU 0) [vU 5] ([5] : List Int) [gL []] H hd rfl (InnL.cons trivial InnL.nil)) ?_
    rintro v w2 hq
    obtain ⟨g132,rfl,hq⟩:=hq
    replace hS:=hS.join [] [] rfl rfl hq
    exact ⟨gL [g132],fun _ _ => rfl,hS.sel [0] rfl⟩
   ·intro o ho a w yg124 M Hb hv hO hS0
    obtain rfl:=someE ho
    have H:=((Hb).add (hv 3 (by decide) (by decide) 41 rfl)).add (hv 4 (by decide) (by decide) 42 rfl)
    have hS:=hS0
    replace hS:=SH.frz1 (hS.sel [0,1] rfl)
    have hd:=hS.hand [0,1] [0,1] rfl rfl
    refine Stp.mono (o_callx H rfl rfl (gA (fq:=(yg124 4 0)) m _ _ _ _ _ _ _ hy134 _ _ hd)) ?_
    rintro v w2 hq
    obtain ⟨g135,g137,rfl,hq⟩:=hq
    replace hS:=hS.join [0,1] [0,1] rfl rfl hq
    exact ⟨gL [g135,g137],fun _ _ => rfl,hS.sel [0,1,2,3] rfl⟩
   ·intro o ho a w yg124 M Hb hv hO hS0
    obtain rfl:=someE ho
    have H:=Hb
    have hS:=hS0
    have hd:=hS.hand [0] [0] rfl rfl
    refine Stp.mono (o_callx H rfl rfl (m9 m _ _ _ _ _ hy139 _ _ hd)) ?_
    rintro v w2 hq
    obtain ⟨vy,g142,rfl,hq⟩:=hq
    replace hS:=hS.join [0] [0] rfl rfl hq
    exact ⟨gL [vy,g142],fun _ _ => rfl,hS.sel [0,1,2] rfl⟩
   ·intro o ho a w yg124 M Hb hv hO hS0
    obtain rfl:=someE ho
    have H:=Hb
    have hS:=hS0
    have hd:=hS.hand [] [] rfl rfl
    refine Stp.mono (o_li (T:=(tI .u8)) (E:=5) (zv:=vU 0) [vU 5] ([5] : List Int) [gL []] H hd rfl (InnL.cons trivial InnL.nil)) ?_
    rintro v w2 hq
    obtain ⟨g144,rfl,hq⟩:=hq
    replace hS:=hS.join [] [] rfl rfl hq
    exact ⟨gL [g144],fun _ _ => rfl,hS.sel [0] rfl⟩
   ·intro o ho a w yg124 M Hb hv hO hS0
    obtain rfl:=someE ho
    have H:=Hb
    have hS:=hS0
    have hd:=hS.hand [] [] rfl rfl
    refine Stp.mono (o_li (T:=tS) (E:=9) (zv:=vN) [vS [97,117,116,111]] kL1 [gL []] H hd rfl (InnL.cons trivial InnL.nil)) ?_
    rintro v w2 hq
    obtain ⟨g146,rfl,hq⟩:=hq
    replace hS:=hS.join [] [] rfl rfl hq
    exact ⟨gL [g146],fun _ _ => rfl,hS.sel [0] rfl⟩
   ·intro o ho a w yg124 M Hb hv hO hS0
    obtain rfl:=someE ho
    have H:=Hb
    have hS:=hS0
    have hd:=hS.hand [] [] rfl rfl
    refine Stp.mono (o_li (T:=(tI .u8)) (E:=5) (zv:=vU 0) [vU 6] ([6] : List Int) [gL []] H hd rfl (InnL.cons trivial InnL.nil)) ?_
    rintro v w2 hq
    obtain ⟨g148,rfl,hq⟩:=hq
    replace hS:=hS.join [] [] rfl rfl hq
    exact ⟨gL [g148],fun _ _ => rfl,hS.sel [0] rfl⟩
   ·intro o ho a w yg124 M Hb hv hO hS0
    obtain rfl:=someE ho
    have H:=Hb
    have hS:=hS0
    have hd:=hS.hand [] [] rfl rfl
    refine Stp.mono (o_li (T:=(tI .u8)) (E:=5) (zv:=vU 0) [vU 6] ([6] : List Int) [gL []] H hd rfl (InnL.cons trivial InnL.nil)) ?_
    rintro v w2 hq
    obtain ⟨g150,rfl,hq⟩:=hq
    replace hS:=hS.join [] [] rfl rfl hq
    exact ⟨gL [g150],fun _ _ => rfl,hS.sel [0] rfl⟩
   ·intro o ho a w yg124 M Hb hv hO hS0
    obtain rfl:=someE ho
    have H:=((((((Hb).add (hv 2 (by decide) (by decide) 40 rfl)).add (hv 5 (by decide) (by decide) 43 rfl)).add (hv 6 (by decide) (by decide) 44 rfl)).add (hv 9 (by decide) (by decide) 47 rfl)).add (hv 13 (by decide) (by decide) 51 rfl)).add (hv 16 (by decide) (by decide) 54 rfl)
    have hS:=hS0
    replace hS:=SH.frz1 (hS.sel [0,1,2,3,4,5,6,7,8,9,10,11] rfl)
    replace hS:=SH.frz1 (hS.sel [1,0,2,3,4,5,6,7,8,9,10,11] rfl)
    replace hS:=SH.frz1 (hS.sel [3,0,1,2,4,5,6,7,8,9,10,11] rfl)
    replace hS:=SH.frz1 (hS.sel [4,0,1,2,3,5,6,7,8,9,10,11] rfl)
    replace hS:=SH.frz1 (hS.sel [6,0,1,2,3,4,5,7,8,9,10,11] rfl)
    replace hS:=SH.frz1 (hS.sel [7,0,1,2,3,4,5,6,8,9,10,11] rfl)
    replace hS:=SH.frz1 (hS.sel [8,0,1,2,3,4,5,6,7,9,10,11] rfl)
    replace hS:=SH.frz1 (hS.sel [9,0,1,2,3,4,5,6,7,8,10,11] rfl)
    replace hS:=SH.frz1 (hS.sel [10,0,1,2,3,4,5,6,7,8,9,11] rfl)
    replace hS:=SH.frz1 (hS.sel [11,0,1,2,3,4,5,6,7,8,9,10] rfl)
    have hd:=hS.hand [9,8,7,6,5,4,3,2,1,0] [0,1,2,3,4,5,6,7,8,9,10,11] rfl rfl
    refine Stp.mono (o_li (T:=fg) (E:=281) (zv:=vG [vN,vF,vU 0,vN,vI 0,vU 0,vU 0,vU 0,vU 0,vO,vO,vF]) [vS y126.bA,vB y126.f1,vU y126.aO.aj,vS y126.aO.jz,vI y126.aO.Num,vU y126.aO.aX.Red,vU y126.aO.aX.dp,vU y126.aO.aX.f5,vU y126.aO.aX.dq,.slice (yg124 2 0).a y126.cB.length (yg124 2 0).c,.slice (yg124 2 1).a y126.cD.length (yg124 2 1).c,vB y126.mj,vS y134.bA,vB y134.f1,vU y134.aO.aj,vS y134.aO.jz,vI y134.aO.Num,vU y134.aO.aX.Red,vU y134.aO.aX.dp,vU y134.aO.aX.f5,vU y134.aO.aX.dq,.slice (yg124 5 0).a y134.cB.length (yg124 5 0).c,.slice (yg124 5 1).a y134.cD.length (yg124 5 1).c,vB y134.mj,vS y139.bA,vB y139.f1,vU y139.aO.aj,vS y139.aO.jz,vI y139.aO.Num,vU y139.aO.aX.Red,vU y139.aO.aX.dp,vU y139.aO.aX.f5,vU y139.aO.aX.dq,.slice (yg124 6 0).a y139.cB.length (yg124 6 0).c,.slice (yg124 6 1).a y139.cD.length (yg124 6 1).c,vB y139.mj,vS [111,112,97,99,105,116,121],vF,vU 5,vN,vI 1000,vU 0,vU 0,vU 0,vU 0,vO,vK (yg124 8 0) 1,vF,vS [122,45,105,110,100,101,120],vF,vU y3.aj,vS y3.jz,vI y3.Num,vU y3.aX.Red,vU y3.aX.dp,vU y3.aX.f5,vU y3.aX.dq,vK (yg124 11 0) 1,vK (yg124 12 0) 1,vF,vS [111,114,100,101,114],vF,vU 6,vN,vI 0,vU 0,vU 0,vU 0,vU 0,vO,vK (yg124 15 0) 1,vF] ([y126,y134,y139,(cu.mk [111,112,97,99,105,116,121] false (du.mk 5 [] 1000 (d0.mk 0 0 0 0)) [] ([5] : List Int) false),(cu.mk [122,45,105,110,100,101,120] false y3 kL1 ([6] : List Int) false),(cu.mk [111,114,100,101,114] false (du.mk 6 [] 0 (d0.mk 0 0 0 0)) [] ([6] : List Int) false)] : List cu) [gL [(yg124 2 0),(yg124 2 1)],gL [(yg124 5 0),(yg124 5 1)],gL [(yg124 6 0),(yg124 6 1)],gL [Gh.nil,(yg124 8 0)],gL [(yg124 11 0),(yg124 12 0)],gL [Gh.nil,(yg124 15 0)]] H hd rfl (InnL.cons (eN (hd.im 0 rfl) (hd.im 1 rfl)) (InnL.cons (eN (hd.im 2 rfl) (hd.im 3 rfl)) (InnL.cons (eN (hd.im 4 rfl) (hd.im 5 rfl)) (InnL.cons (eN SlG.nil (hd.im 6 rfl)) (InnL.cons (eN (hd.im 7 rfl) (hd.im 8 rfl)) (InnL.cons (eN SlG.nil (hd.im 9 rfl)) InnL.nil))))))) ?_
    rintro v w2 hq
    obtain ⟨g152,rfl,hq⟩:=hq
    replace hS:=hS.join [9,8,7,6,5,4,3,2,1,0] [0,1,2,3,4,5,6,7,8,9,10,11] rfl rfl hq
    exact ⟨gL [g152],fun _ _ => rfl,hS.sel [0,1,2,3,4,5,6,7,8,9,10,11,12] rfl⟩
   ·intro o ho a w yg124 M Hb hv hO hS0
    obtain rfl:=someE ho
    have H:=((Hb).add (hv 0 (by decide) (by decide) 38 rfl)).add (hv 17 (by decide) (by decide) 55 rfl)
    have hS:=hS0
    have hd:=hS.hand [13,0] [1,2,3,4,5,6,7,8,9,10,11,12] rfl rfl
    refine Stp.mono (o_app2 (T:=fg) (zv:=vG [vN,vF,vU 0,vN,vI 0,vU 0,vU 0,vU 0,vU 0,vO,vO,vF]) (g1:=pv) (g2:=(yg124 17 0)) (l1:=z81) (l2:=([y126,y134,y139,(cu.mk [111,112,97,99,105,116,121] false (du.mk 5 [] 1000 (d0.mk 0 0 0 0)) [] ([5] : List Int) false),(cu.mk [122,45,105,110,100,101,120] false y3 kL1 ([6] : List Int) false),(cu.mk [111,114,100,101,114] false (du.mk 6 [] 0 (d0.mk 0 0 0 0)) [] ([6] : List Int) false)] : List cu)) q155 hq155.symm H hd rfl rfl rfl rfl rfl rfl rfl (by kernel_rfl) (by kernel_rfl) rfl rfl ho154) ?_
    rintro v w2 hq
    obtain ⟨g156,rfl,hq⟩:=hq
    replace hS:=hS.join [13,0] [1,2,3,4,5,6,7,8,9,10,11,12] rfl rfl hq
    exact ⟨gL [g156],fun _ _ => rfl,hS.sel [0,1,2,3,4,5,6,7,8,9,10,11,12,13] rfl⟩
  have H159 : Fr 57 [(0,[],.slice (yg124 18 0).a q155.length (yg124 18 0).c)] _:=(FrG.add (FrG.keep (ks:=[]) H158 (by kernel_rfl)) (hv 19 0 rfl))
  replace hS : SH M X w [eO 281 fg ([y126,y134,y139,(cu.mk [111,112,97,99,105,116,121] false (du.mk 5 [] 1000 (d0.mk 0 0 0 0)) [] ([5] : List Int) false),(cu.mk [122,45,105,110,100,101,120] false y3 kL1 ([6] : List Int) false),(cu.mk [111,114,100,101,114] false (du.mk 6 [] 0 (d0.mk 0 0 0 0)) [] ([6] : List Int) false)] : List cu) (yg124 17 0),eI (tI .u8) ([6] : List Int) (yg124 15 0),eI (tI .u8) ([6] : List Int) (yg124 12 0),eI tS kL1 (yg124 11 0),eI (tI .u8) ([5] : List Int) (yg124 8 0),eI (tI .u8) y139.cD (yg124 6 1),eI tS y139.cB (yg124 6 0),eI (tI .u8) y134.cD (yg124 5 1),eI tS y134.cB (yg124 5 0),eI (tI .u8) y126.cD (yg124 2 1),eI tS y126.cB (yg124 2 0),eI (tI .u8) ([] : List Int) (.nil),eI (tI .u8) ([5] : List Int) (yg124 4 0),eO 281 fg q155 (yg124 18 0),eB b6 (e20 y3),gE4] _:=hS
  clear hv H158
  generalize yg124 18 0 = g160 at H159 hS
  generalize yg124 17 0 = wu at H159 hS
  generalize yg124 15 0 = pF at H159 hS
  generalize yg124 12 0 = wM at H159 hS
  generalize yg124 11 0 = wP at H159 hS
  generalize yg124 8 0 = g165 at H159 hS
  generalize yg124 6 1 = g166 at H159 hS
  generalize yg124 6 0 = g167 at H159 hS
  generalize yg124 5 1 = g168 at H159 hS
  generalize yg124 5 0 = g169 at H159 hS
  generalize yg124 2 1 = g170 at H159 hS
  generalize yg124 2 0 = g171 at H159 hS
  generalize yg124 4 0 = g172 at H159 hS
  replace hS:=hS.sel [13,15] rfl
  refine t_in H159 hS (t_ret ?_)
  obtain rfl:=someE hm
  exact t_g g160 [0] rs1

def jf (p : cu) (u0 : Str) : Bool :=
  p.bA == u0
theorem rP {uY : Gh} {vo : Gh} {aW : Nat} (p : cu) (u0 : Str) (w : World) (hL : S0 F0 [eI tS p.cB uY,eI (tI .u8) p.cD vo,Ent.ro aW [vS u0]] w ∧ fpl [eI tS p.cB uY,eI (tI .u8) p.cD vo,Ent.ro aW [vS u0]] = []) : RetB Tryz.prog 216 ⟨[.agg ⟨e21 p (gL [uY,vo])⟩,vP aW]⟩ (vB (jf p u0)) w:=by
 generalize hm : jf p u0 = r
 rw [jf] at hm
 refine f_read hL (Tryz.call216 _) Tryz.func216 Tryz.ntmps216 fun M X w => (t_starts ?_)
 refine t_m [] [0,1,2] [1] [vP aW] (fun _ _ H hd => o_box (e21 p (gL [uY,vo])) H hd rfl rfl) fun b1 => ?_
 refine t_b 2 [1,2] [vP aW,vP b1] [] (t_end ?_)
 refine t_r [3] [vB (p.bA == u0)] [kb 0 0,ko 3 0] (t_sel [] (t_ret ?_))
 subst hm
 exact t_n [] rs1

def cO (m : Nat) (s : List cu) (qP : Str) : Nat → Int → Option (Sum (Int) (Unit))
  | 0,_ => none
  | kk + 1,v6 =>
    cond (decide (v6 < (ln s))) (
    chk (0 ≤ v6 ∧ v6 < ln s) <|
    cond (jf (gi s v6) qP) (
    some (.inl v6)) (
    cO m s qP kk (w64 (v6 + 1)))) (
    some (.inr ()))
def e7 (m : Nat) (s : List cu) (qP : Str) : Option (Int) :=
  Option.bind (
  cO m s qP m 0) fun (z3 : Sum (Int) (Unit)) => sumK z3 fun s_z3 =>
  none
theorem ie {g_s : Gh} {bY : Nat} (m : Nat) (s : List cu) (qP : Str) (r : Int) (hm : e7 m s qP = some r) (w : World) (hL : S0 F0 [eI fg s g_s,Ent.ro bY [vS qP]] w ∧ fpl [eI fg s g_s,Ent.ro bY [vS qP]] = []) : RetB Tryz.prog 215 ⟨[vL g_s s,.func (.func 216) ⟨[]⟩ ⟨[vP bY]⟩]⟩ (vI r) w:=by
 rw [e7] at hm
 refine f_read hL (Tryz.call215 _) Tryz.func215 Tryz.ntmps215 fun M X w => ?_
 refine t_r [0,1] [vL g_s s,.func (.func 216) ⟨[]⟩ ⟨[vP bY]⟩] [] ?_
 obtain ⟨z3,hz,hm_z3⟩:=bindE hm
 intro _ _ H2 hS
 refine w_cut (fun a' w' => ∃ s_z3 : Unit,z3 = Sum.inr s_z3 ∧ Fr 19 [] a' ∧ SH M X w [eI fg s g_s,Ent.ro bY [vS qP]] w') ?_ ?_
 ·replace hm:=hz
  refine t_in H2 hS ?_
  refine t_r [0,1,7,8] [vL g_s s,.func (.func 216) ⟨[]⟩ ⟨[vP bY]⟩,vI (ln s),vI 0] [] (t_block ?_)
  intro _ _ H5 hS
  refine w_loop (fun kk a' w' => ∃ (v6 : Int),cO m s qP kk v6 = some _ ∧ Fr 19 (fS [0,1,7,8] [vL g_s s,.func (.func 216) ⟨[]⟩ ⟨[vP bY]⟩,vI (ln s),vI v6]) a' ∧ SH M X w [eI fg s g_s,Ent.ro bY [vS qP]] w') ⟨_,0,hm,FrG.keep (ks:=[0,1,7,8]) H5 (by kernel_rfl),hS⟩ ?_
  clear hm H5 hS
  rintro kk _ _ ⟨v6,hm,H,hS⟩
  cases kk with
  | zero => exact noneE hm
  | succ kk =>
   rw [cO] at hm
   refine t_in H hS ?_
   refine t_r [0,1,7,8,9] [vL g_s s,.func (.func 216) ⟨[]⟩ ⟨[vP bY]⟩,vI (ln s),vI v6,vB (decide (v6 < (ln s)))] [] (t_seq ?_)
   refine t_im hm (fun hm => ?_) (fun hm => ?c19)
   case c19 =>
    refine t_exit ?_
    obtain rfl:=someE hm
    exact fun _ _ H8 hS => ⟨_,rfl,FrG.keep (ks:=[]) H8 (by kernel_rfl),hS⟩
   refine t_skip (t_seq (t_block ?_))
   refine t_r [0,1,5,7,8] [vL g_s s,.func (.func 216) ⟨[]⟩ ⟨[vP bY]⟩,vI v6,vI (ln s),vI v6] [] ?_
   obtain ⟨ho11,hm⟩:=chkE hm
   refine t_r [0,1,5,7,8,16] [vL g_s s,.func (.func 216) ⟨[]⟩ ⟨[vP bY]⟩,vI v6,vI (ln s),vI v6,vB (jf (gi s v6) qP)] [ki 0 ho11,⟨some (.agg ⟨e21 (gi s v6) (g_s.s (v6).toNat)⟩),fun wz => V.atN (ab g_s.a) (ao g_s.a + (v6).toNat * 12) (e21 (gi s v6) (g_s.s (v6).toNat)) 0 wz,fun _ hS => ((hS.im 0 rfl).atA ho11 0 rfl)⟩,kr fun _ hS => rP (uY:=(g_s.s (v6).toNat 0)) (vo:=(g_s.s (v6).toNat 1)) (aW:=bY) (gi s v6) qP _ (s0im (s0im (s0ro s0nil (hS.ro 1 rfl)) (tY ((hS.im 0 rfl).el ho11))) (u2 ((hS.im 0 rfl).el ho11)))] ?_
   refine t_im hm (fun hm => ?_) (fun hm => ?c18)
   case c18 =>
    refine t_skip ?_
    refine t_w [0,1,7,8] [vL g_s s,.func (.func 216) ⟨[]⟩ ⟨[vP bY]⟩,vI (ln s),vI (w64 (v6 + 1))] [] ?_
    exact fun _ _ H17 hS => ⟨_,Nat.lt_succ_self _,w64 (v6 + 1),hm,FrG.keep (ks:=[0,1,7,8]) H17 (by kernel_rfl),hS⟩
   refine t_r [4] [vI v6] [] (t_ret ?_)
   obtain rfl:=someE hm
   have hm:=hm_z3
   obtain rfl:=someE hm
   exact t_n [] rs1
 ·rintro _ _ ⟨s_z3,hz,H,hS⟩
  subst hz
  replace hm:=sumR hm_z3
  replace hS : SH M X w [] _:=hS.sel [] rfl
  exact noneE hm

def nK (m : Nat) (aL : Str) : Option (Int × Int) :=
  Option.bind (kR m) fun y6 =>
  Option.bind (e7 m y6 aL) fun y11 =>
  cond (decide (y11 < 0)) (
  none) (
  some (y11,0))
theorem p8  (m : Nat) (aL : Str) (r : Int × Int) (hm : nK m aL = some r) (w : World) (hL : S0 F0 [gE4] w ∧ fpl [gE4] = []) : RetB Tryz.prog 159 ⟨[vS aL]⟩ (vW [vI r.1,vI r.2]) w:=by
 rw [nK] at hm
 refine f_read hL (Tryz.call159 _) Tryz.func159 Tryz.ntmps159 fun M X w => (t_starts ?_)
 refine t_m [] [0] [] [] (fun _ _ H hd => o_box [vS aL] H hd rfl rfl) fun b1 => ?_
 refine t_b 3 [1] [vP b1] [] (t_end (t_starts ?_))
 obtain ⟨y6,hy6,hm⟩:=bindE hm
 refine t_c [1] [0,1] [1] [vP b1] (lM m _ hy6) fun g7 => ?_
 obtain ⟨y11,hy11,hm⟩:=bindE hm
 refine t_b 4 [4] [vI y11] [kr fun _ hS => ie (g_s:=g7) (bY:=b1) m _ _ _ hy11 _ (s0im (s0ro s0nil (hS.bk 1 rfl)) (hS.osl 0 rfl))] (t_end (t_sel [2] (t_seq ?_)))
 refine t_r [4,9] [vI y11,vB (decide (y11 < 0))] [] ?_
 refine t_i2 hm (fun hm => ?_)
 refine t_skip ?_
 refine t_r [2,3] [vI y11,vI 0] [] (t_ret ?_)
 obtain rfl:=someE hm
 exact t_n [] rs2

def l4 (m : Nat) (aL : Str) : Option (Bool × Int) :=
  Option.bind (lu aL) fun y3 =>
  cond y3 (
  some (true,0)) (
  Option.bind (nK 64 aL) fun y8 =>
  cond (y8.2 != 0) (
  none) (
  Option.bind (kR m) fun y13 =>
  chk (0 ≤ y8.1 ∧ y8.1 < ln y13) <|
  some ((gi y13 y8.1).f1,0)))
theorem pS  (m : Nat) (aL : Str) (r : Bool × Int) (hm : l4 m aL = some r) (w : World) (hL : S0 F0 [gE4] w ∧ fpl [gE4] = []) : RetB Tryz.prog 154 ⟨[vS aL]⟩ (vW [vB r.1,vI r.2]) w:=by
 rw [l4] at hm
 refine f_read hL (Tryz.call154 _) Tryz.func154 Tryz.ntmps154 fun M X w => ?_
 refine t_r [0] [vS aL] [] (t_seq ?_)
 obtain ⟨y3,hy3,hm⟩:=bindE hm
 refine t_r [0,7] [vS aL,vB y3] [kc (nQ _ _ hy3)] ?_
 refine t_im hm (fun hm => ?c22) (fun hm => ?_)
 case c22 =>
  refine t_r [2,3] [vT,vI 0] [] (t_ret ?_)
  obtain rfl:=someE hm
  exact t_n [] rs2
 refine t_skip ?_
 obtain ⟨y8,hy8,hm⟩:=bindE hm
 refine t_r [4,5] [vI y8.1,vI y8.2] [kr fun _ hS => p8 64 _ _ hy8 _ (s0im s0nil (hS.im 0 rfl))] (t_seq ?_)
 refine t_r [4,5,14] [vI y8.1,vI y8.2,vB (y8.2 != 0)] [] ?_
 refine t_i2 hm (fun hm => ?_)
 refine t_skip (t_starts ?_)
 obtain ⟨y13,hy13,hm⟩:=bindE hm
 refine t_c [0] [0] [4] [vI y8.1] (lM m _ hy13) fun g14 => ?_
 obtain ⟨ho18,hm⟩:=chkE hm
 refine t_b 7 [2,3] [vB ((gi y13 y8.1).f1),vI 0] [kI 0 ho18,kJ 0 1 ho18] (t_end (t_sel [1] (t_ret ?_)))
 obtain rfl:=someE hm
 exact t_n [] rs2

def o6 (m : Nat) (aL : Str) : Option ((List Str) × Int) :=
  Option.bind (oF 64 aL) fun y5 =>
  cond (decide (0 < (ln y5))) (
  some (y5,0)) (
  Option.bind (l4 64 aL) fun y16 =>
  cond (y16.2 != 0) (
  none) (
  some (([aL] : List Str),0)))
theorem sF  (m : Nat) (aL : Str) (r : (List Str) × Int) (hm : o6 m aL = some r) : DoesM Tryz.prog 96 ⟨[vS aL]⟩ [gE4] (fun (aA : Gh) => vW [vL aA r.1,vI r.2]) (fun aA => [eO 9 tS r.1 aA]):=by
 rw [o6] at hm
 refine f_mem (Tryz.call96 _) Tryz.func96 Tryz.ntmps96 fun M X w => ?_
 refine t_r [0] [vS aL] [] (t_seq (t_starts ?_))
 refine t_b 1 [0,7] [vS aL,vS aL] [] ?_
 obtain ⟨y5,hy5,hm⟩:=bindE hm
 refine t_c [] [0] [0] [vS aL] (o3 64 _ _ hy5) fun g6 => ?_
 refine t_b 3 [0,4] [vS aL,vL g6 y5] [] (t_end ?_)
 refine t_r [0,4,11] [vS aL,vL g6 y5,vB (decide (0 < (ln y5)))] [] ?_
 refine t_im hm (fun hm => ?c30) (fun hm => ?_)
 case c30 =>
  refine t_r [2,3] [vL g6 y5,vI 0] [] (t_ret ?_)
  obtain rfl:=someE hm
  exact t_g g6 [0] rs2
 refine t_skip (t_seq ?_)
 obtain ⟨y16,hy16,hm⟩:=bindE hm
 refine t_r [0,6] [vS aL,vI y16.2] [kr fun _ hS => pS 64 _ _ hy16 _ (s0im s0nil (hS.im 1 rfl))] (t_sel [1] ?_)
 refine t_r [0,6,19] [vS aL,vI y16.2,vB (y16.2 != 0)] [] ?_
 refine t_i2 hm (fun hm => ?_)
 refine t_skip (t_starts ?_)
 refine t_b 1 [21] [vS aL] [] ?_
 refine t_m [] [0] [] [] (fun _ _ H22 hd => o_li (T:=tS) (E:=9) (zv:=vN) [vS aL] ([aL] : List Str) [gL []] H22 hd rfl (InnL.cons trivial InnL.nil)) fun g23 => ?_
 refine t_b 4 [2,3] [vK g23 1,vI 0] [] (t_end (t_ret ?_))
 obtain rfl:=someE hm
 exact t_g g23 [0] rs2

def j4 (m : Nat) (s : Str) : Nat → Int → Option (Unit)
  | 0,_ => none
  | kk + 1,v14 =>
    cond (decide (v14 < (ln (ofB s)))) (
    chk (0 ≤ v14 ∧ v14 < ln (ofB s)) <|
    lt (cond (decide (65 ≤ (gi (ofB s) v14))) (decide ((gi (ofB s) v14) ≤ 90)) false) fun x20 =>
    cond x20 (
    none) (
    j4 m s kk (w64 (v14 + 1)))) (
    some ())
def mw (m : Nat) (s : Str) : Option (Str) :=
  Option.bind (
  j4 m s m 0) fun (z11 : Unit) =>
  some (toB (ofB s))
theorem ol  (m : Nat) (s : Str) (r : Str) (hm : mw m s = some r) : Ret Tryz.prog 158 ⟨[vS s]⟩ (vS r):=by
 rw [mw] at hm
 refine f_pure (Tryz.call158 _) Tryz.func158 Tryz.ntmps158 fun M X w => ?_
 refine t_r [0] [vS s] [] (t_starts ?_)
 refine t_b 1 [6] [vS s] [] ?_
 intro _ _ H4 hS
 have hd:=hS.hand [] [] rfl rfl
 refine m_stp [7] [] H4 rfl rfl rfl rfl (o_bytes (E:=5) H4 hd rfl (by kernel_rfl) (by kernel_rfl) (by kernel_rfl)) (fun _ => rfl) fun _ _ v H8 hq => ?_
 obtain ⟨b5,c6,rfl,hc_b5,hq⟩:=hq
 replace hS:=hS.join [] [] rfl rfl hq
 refine t_in H8 hS ?_
 refine t_b 3 [3] [.slice (some ⟨b5,0,none⟩) ((ofB s).length) c6] [] (t_end ?_)
 obtain ⟨z11,hz,hm⟩:=bindE hm
 refine t_cut [3] [.slice (some ⟨b5,0,none⟩) ((ofB s).length) c6] [Ent.row .u8 b5 (ofB s) (ln (ofB s))] ?_ ?_
 ·replace hm:=hz
  refine t_r [3,8,9,10] [.slice (some ⟨b5,0,none⟩) ((ofB s).length) c6,.slice (some ⟨b5,0,none⟩) ((ofB s).length) c6,vI (ln (ofB s)),vI 0] [] (t_block ?_)
  intro _ _ H13 hS
  refine w_loop (fun kk a' w' => ∃ (v14 : Int),j4 m s kk v14 = some _ ∧ Fr 30 (fS [3,8,9,10] [.slice (some ⟨b5,0,none⟩) ((ofB s).length) c6,.slice (some ⟨b5,0,none⟩) ((ofB s).length) c6,vI (ln (ofB s)),vI v14]) a' ∧ SH M X w [Ent.row .u8 b5 (ofB s) (ln (ofB s))] w') ⟨_,0,hm,FrG.keep (ks:=[3,8,9,10]) H13 (by kernel_rfl),hS⟩ ?_
  clear hm H13 hS
  rintro kk _ _ ⟨v14,hm,H,hS⟩
  cases kk with
  | zero => exact noneE hm
  | succ kk =>
   rw [j4] at hm
   refine t_in H hS ?_
   refine t_r [3,8,9,10,11] [.slice (some ⟨b5,0,none⟩) ((ofB s).length) c6,.slice (some ⟨b5,0,none⟩) ((ofB s).length) c6,vI (ln (ofB s)),vI v14,vB (decide (v14 < (ln (ofB s))))] [] (t_seq ?_)
   refine t_im hm (fun hm => ?_) (fun hm => ?c26)
   case c26 =>
    refine t_exit ?_
    obtain rfl:=someE hm
    exact t_e [3]
   refine t_skip (t_seq (t_block ?_))
   obtain ⟨ho17,hm⟩:=chkE hm
   refine t_r [3,4,5,8,9,10] [.slice (some ⟨b5,0,none⟩) ((ofB s).length) c6,vI v14,vU (gi (ofB s) v14),.slice (some ⟨b5,0,none⟩) ((ofB s).length) c6,vI (ln (ofB s)),vI v14] [⟨none,fun _ => oka (some ⟨b5,0,none⟩) ∧ 0 ≤ v14 ∧ v14 < ln (ofB s),fun _ _ => (⟨rfl,ho17⟩)⟩,⟨some (vU (gi (ofB s) v14)),fun wz => V.at1 ⟨b5,0 + (v14).toNat * 1,none⟩ (vU (gi (ofB s) v14)) wz,fun _ hS => (Rw.ixn (hS.rw 0 rfl) ho17)⟩] ?_
   obtain ⟨x20,hx20,hm⟩:=letE hm
   refine t_r [3,4,5,8,9,10,20] [.slice (some ⟨b5,0,none⟩) ((ofB s).length) c6,vI v14,vU (gi (ofB s) v14),.slice (some ⟨b5,0,none⟩) ((ofB s).length) c6,vI (ln (ofB s)),vI v14,vB x20] [] ?_ (he:=by subst hx20; kernel_rfl)
   refine t_i2 hm (fun hm => ?_)
   refine t_skip ?_
   refine t_w [3,8,9,10] [.slice (some ⟨b5,0,none⟩) ((ofB s).length) c6,.slice (some ⟨b5,0,none⟩) ((ofB s).length) c6,vI (ln (ofB s)),vI (w64 (v14 + 1))] [] ?_
   exact fun _ _ H24 hS => ⟨_,Nat.lt_succ_self _,w64 (v14 + 1),hm,FrG.keep (ks:=[3,8,9,10]) H24 (by kernel_rfl),hS⟩
 ·intro _ _ H hS
  refine s_reg [(vS (toB (ofB s)))] [2] [(2,[],vS (toB (ofB s)))] [fun wz => ∀ w',Below wz.heap.size wz w' → (convert 201 9 (.slice (some ⟨b5,0,none⟩) ((ofB s).length) c6)).run Tryz.prog w' = .ok (vS (toB (ofB s))) w'] H (by kernel_rfl) ⟨(conv_row (E:=5) (by kernel_rfl) (by kernel_rfl) (by kernel_rfl) (hS.rw 0 rfl).1 (hS.rw 0 rfl).2),trivial⟩ fun _ _ H29 hb => ?_
  replace hS:=hS.below hb
  replace hS : SH M X w [] _:=hS.sel [] rfl
  refine t_in H29 hS (t_ret ?_)
  obtain rfl:=someE hm
  exact t_n [] rs1

def ml (gf : (List ae) → Option (Bool)) : Prop:=∀ (aa : Gh) (M : Av) (l_ : List ae) (r : Bool),gf l_ = some r → ∀ w,S0 M [eI a6 l_ aa] w → Calls Tryz.prog 98 ⟨[vL aa l_]⟩ w (fun e w' => ∃ v,e = .returned v ∧ v = vB r ∧ SH M (fpl [eI a6 l_ aa]) w [] w')
def ot (m : Nat) (bX : (List ae) → Option (Bool)) (v_ : ae) : Option (Bool) :=
  Option.bind (cond (v_.ax.aj == 2) (mw m v_.ax.ei) (some default)) fun y6 =>
  lt (cond (v_.ax.aj == 2) (y6 == [118,97,114]) false) fun x7 =>
  Option.bind (cond x7 (some default) (bX v_.a8)) fun y8 =>
  some (cond x7 true y8)
theorem ss {d9 : Gh} (m : Nat) (bX : (List ae) → Option (Bool)) (hJ : ml bX) (v_ : ae) (r : Bool) (hm : ot m bX v_ = some r) (w : World) (hL : S0 F0 [eI a6 v_.a8 d9] w ∧ fpl [eI a6 v_.a8 d9] = []) : RetB Tryz.prog 157 ⟨[.agg ⟨e0 v_ (gL [d9])⟩]⟩ (vB r) w:=by
 rw [ot] at hm
 refine f_read hL (Tryz.call157 _) Tryz.func157 Tryz.ntmps157 fun M X w => (t_starts ?_)
 refine t_m [] [0] [] [] (fun _ _ H hd => o_box (e0 v_ (gL [d9])) H hd rfl rfl) fun b1 => ?_
 refine t_b 2 [1] [vP b1] [] (t_end ?_)
 obtain ⟨y6,hy6,hm⟩:=bindE hm
 obtain ⟨x7,hx7,hm⟩:=letE hm
 obtain ⟨y8,hy8,hm⟩:=bindE hm
 refine t_r [2] [vB (cond x7 true y8)] [kb 0 0,kgb ((v_.ax.aj == 2) = true ∧ True) 0 1,kgc ((v_.ax.aj == 2) = true ∧ True) fun hg => (ol m _ _ (bT (hg.1) hy6)),kgb (x7 = false ∧ True) 0 5,kgr (x7 = false ∧ True) fun _ hS hg => retB_of (s0im s0nil (hS.im 1 rfl)) (Tryz.call98 _) (fun w' h' => hJ (d9) F0 _ _ (bF (hg.1) hy8) w' h')] ?_ (he:=by subst hx7; kernel_rfl)
 refine t_sel [] (t_ret ?_)
 obtain rfl:=someE hm
 exact t_n [] rs1
def cn (m : Nat) (bX : (List ae) → Option (Bool)) (s : List ae) : Nat → Int → Option (Unit)
  | 0,_ => none
  | kk + 1,v6 =>
    cond (decide (v6 < (ln s))) (
    chk (0 ≤ v6 ∧ v6 < ln s) <|
    Option.bind (ot m bX (gi s v6)) fun y12 =>
    cond y12 (
    none) (
    cn m bX s kk (w64 (v6 + 1)))) (
    some ())
def dA (m : Nat) (bX : (List ae) → Option (Bool)) (s : List ae) : Option (Int) :=
  Option.bind (
  cn m bX s m 0) fun (z3 : Unit) =>
  some (-1)
theorem gz {g_s : Gh} (m : Nat) (bX : (List ae) → Option (Bool)) (hJ : ml bX) (s : List ae) (r : Int) (hm : dA m bX s = some r) (w : World) (hL : S0 F0 [eI a6 s g_s] w ∧ fpl [eI a6 s g_s] = []) : RetB Tryz.prog 207 ⟨[vL g_s s,.func (.func 157) ⟨[]⟩ ⟨[]⟩]⟩ (vI r) w:=by
 rw [dA] at hm
 refine f_read hL (Tryz.call207 _) Tryz.func207 Tryz.ntmps207 fun M X w => ?_
 refine t_r [0,1] [vL g_s s,.func (.func 157) ⟨[]⟩ ⟨[]⟩] [] ?_
 obtain ⟨z3,hz,hm⟩:=bindE hm
 refine t_cut [] [] [eI a6 s g_s] ?_ ?_
 ·replace hm:=hz
  refine t_r [0,1,7,8] [vL g_s s,.func (.func 157) ⟨[]⟩ ⟨[]⟩,vI (ln s),vI 0] [] (t_block ?_)
  intro _ _ H5 hS
  refine w_loop (fun kk a' w' => ∃ (v6 : Int),cn m bX s kk v6 = some _ ∧ Fr 19 (fS [0,1,7,8] [vL g_s s,.func (.func 157) ⟨[]⟩ ⟨[]⟩,vI (ln s),vI v6]) a' ∧ SH M X w [eI a6 s g_s] w') ⟨_,0,hm,FrG.keep (ks:=[0,1,7,8]) H5 (by kernel_rfl),hS⟩ ?_
  clear hm H5 hS
  rintro kk _ _ ⟨v6,hm,H,hS⟩
  cases kk with
  | zero => exact noneE hm
  | succ kk =>
   rw [cn] at hm
   refine t_in H hS ?_
   refine t_r [0,1,7,8,9] [vL g_s s,.func (.func 157) ⟨[]⟩ ⟨[]⟩,vI (ln s),vI v6,vB (decide (v6 < (ln s)))] [] (t_seq ?_)
   refine t_im hm (fun hm => ?_) (fun hm => ?c18)
   case c18 =>
    refine t_exit ?_
    obtain rfl:=someE hm
    exact t_e []
   refine t_skip (t_seq (t_block ?_))
   refine t_r [0,1,5,7,8] [vL g_s s,.func (.func 157) ⟨[]⟩ ⟨[]⟩,vI v6,vI (ln s),vI v6] [] ?_
   obtain ⟨ho11,hm⟩:=chkE hm
   obtain ⟨y12,hy12,hm⟩:=bindE hm
   refine t_r [0,1,5,7,8,16] [vL g_s s,.func (.func 157) ⟨[]⟩ ⟨[]⟩,vI v6,vI (ln s),vI v6,vB y12] [ki 0 ho11,⟨some (.agg ⟨e0 (gi s v6) (g_s.s (v6).toNat)⟩),fun wz => V.atN (ab g_s.a) (ao g_s.a + (v6).toNat * 6) (e0 (gi s v6) (g_s.s (v6).toNat)) 0 wz,fun _ hS => ((hS.im 0 rfl).atA ho11 0 rfl)⟩,kr fun _ hS => ss (d9:=(g_s.s (v6).toNat 0)) m _ hJ _ _ hy12 _ (s0im s0nil (dX ((hS.im 0 rfl).el ho11)))] ?_
   refine t_i2 hm (fun hm => ?_)
   refine t_skip ?_
   refine t_w [0,1,7,8] [vL g_s s,.func (.func 157) ⟨[]⟩ ⟨[]⟩,vI (ln s),vI (w64 (v6 + 1))] [] ?_
   exact fun _ _ H16 hS => ⟨_,Nat.lt_succ_self _,w64 (v6 + 1),hm,FrG.keep (ks:=[0,1,7,8]) H16 (by kernel_rfl),hS⟩
 ·refine t_sel [] ?_
  refine t_r [4] [vI (-1)] [] (t_ret ?_)
  obtain rfl:=someE hm
  exact t_n [] rs1
def df (m : Nat) (bX : (List ae) → Option (Bool)) (s : List ae) : Option (Bool) :=
  Option.bind (dA m bX s) fun y3 =>
  some (decide (0 ≤ y3))
theorem fZ {g_s : Gh} (m : Nat) (bX : (List ae) → Option (Bool)) (hJ : ml bX) (s : List ae) (r : Bool) (hm : df m bX s = some r) (w : World) (hL : S0 F0 [eI a6 s g_s] w ∧ fpl [eI a6 s g_s] = []) : RetB Tryz.prog 142 ⟨[vL g_s s,.func (.func 157) ⟨[]⟩ ⟨[]⟩]⟩ (vB r) w:=by
 rw [df] at hm
 refine f_read hL (Tryz.call142 _) Tryz.func142 Tryz.ntmps142 fun M X w => ?_
 refine t_r [0,1] [vL g_s s,.func (.func 157) ⟨[]⟩ ⟨[]⟩] [] ?_
 obtain ⟨y3,hy3,hm⟩:=bindE hm
 refine t_r [4] [vB (decide (0 ≤ y3))] [kr fun _ hS => gz (g_s:=g_s) m _ hJ _ _ hy3 _ (s0im s0nil (hS.im 0 rfl))] (t_sel [] (t_ret ?_))
 obtain rfl:=someE hm
 exact t_n [] rs1
def mf (m : Nat) : Nat → (List ae) → Option (Bool)
  | 0,_ => none
  | k + 1,l_ =>
    Option.bind (df m (mf m k) l_) fun y3 =>
    some y3
theorem uZ (m : Nat) : ∀ (k : Nat),ml (mf m  k):=by
 intro k
 induction k with
 | zero => intro aa M l_ r hm; exact noneE hm
 | succ k ih =>
  intro aa M l_ r hm w hS
  rw [mf] at hm
  have hS0 : SH M (fpl [eI a6 l_ aa]) w [eI a6 l_ aa] w:=hS
  generalize hX : fpl [eI a6 l_ aa] = X at hS0 ⊢
  clear hS hX
  have hS:=hS0
  clear hS0
  refine calls_entryP Tryz.func98 rfl Tryz.ntmps98 rfl fun _ H => ?_
  refine t_in H hS ?_
  refine t_r [0] [vL aa l_] [] ?_
  obtain ⟨y3,hy3,hm⟩:=bindE hm
  refine t_r [2] [vB y3] [kr fun _ hS => fZ (g_s:=aa) m _ ih _ _ hy3 _ (s0im s0nil (hS.im 0 rfl))] (t_sel [] (t_ret ?_))
  obtain rfl:=someE hm
  exact t_n [] rs1
def tU (m : Nat) (l_ : List ae) : Option (Bool):=mf m  m l_
theorem uF {aa : Gh} (m : Nat) (l_ : List ae) (r : Bool) (hm : tU m l_ = some r) (w : World) (hL : S0 F0 [eI a6 l_ aa] w ∧ fpl [eI a6 l_ aa] = []) : RetB Tryz.prog 98 ⟨[vL aa l_]⟩ (vB r) w:=retB_of hL (Tryz.call98 _) (fun w' h => uZ m   m aa F0 l_ r hm w' h)

def pj (m : Nat) (l_ : List ae) : Option (Str) :=
  Option.bind (
  chk (((ln l_) == 1) = true → 0 ≤ (0 : Int) ∧ (0 : Int) < ln l_) <|
  lt (cond ((ln l_) == 1) (((gi l_ (0 : Int)).ax.aj) == 1) false) fun x5 =>
  cond x5 (
  chk (0 ≤ (0 : Int) ∧ (0 : Int) < ln l_) <|
  Option.bind (mw m ((gi l_ (0 : Int)).ax.ei)) fun y9 =>
  Option.bind (cw 64 kL8 y9) fun y16 =>
  cond y16 (
  none) (
  some ())) (
  some ())) fun (z3 : Unit) =>
  some []
theorem tt {aa : Gh} (m : Nat) (l_ : List ae) (r : Str) (hm : pj m l_ = some r) (w : World) (hL : S0 F0 [eI a6 l_ aa] w ∧ fpl [eI a6 l_ aa] = []) : RetB Tryz.prog 100 ⟨[vL aa l_]⟩ (vS r) w:=by
 rw [pj] at hm
 refine f_read hL (Tryz.call100 _) Tryz.func100 Tryz.ntmps100 fun M X w => ?_
 refine t_r [0] [vL aa l_] [] ?_
 obtain ⟨z3,hz,hm⟩:=bindE hm
 refine t_cut [] [] [eI a6 l_ aa] ?_ ?_
 ·replace hm:=hz
  obtain ⟨ho4,hm⟩:=chkE hm
  obtain ⟨x5,hx5,hm⟩:=letE hm
  refine t_r [0,14] [vL aa l_,vB x5] [kgi (((ln l_) == 1) = true ∧ True) 0 fun hg => (ho4 hg.1),kgj (((ln l_) == 1) = true ∧ True) 0 0 fun hg => (ho4 hg.1)] ?_ (he:=by subst hx5; kernel_rfl)
  refine t_im hm (fun hm => ?_) (fun hm => ?c20)
  case c20 =>
   refine t_skip ?_
   obtain rfl:=someE hm
   exact t_e []
  obtain ⟨ho8,hm⟩:=chkE hm
  obtain ⟨y9,hy9,hm⟩:=bindE hm
  refine t_r [3] [vS y9] [ki 0 ho8,kj 0 1 ho8,kc (ol m _ _ hy9)] (t_starts ?_)
  refine t_m [] [0] [3] [vS y9] (fun _ _ H11 hd => o_li (T:=tS) (E:=9) (zv:=vN) [vS [105,110,105,116,105,97,108],vS [105,110,104,101,114,105,116],vS [117,110,115,101,116],vS [114,101,118,101,114,116]] kL8 [gL [],gL [],gL [],gL []] H11 hd rfl (InnL.cons trivial (InnL.cons trivial (InnL.cons trivial (InnL.cons trivial InnL.nil))))) fun g12 => ?_
  obtain ⟨y16,hy16,hm⟩:=bindE hm
  refine t_b 3 [3,23] [vS y9,vB y16] [kr fun _ hS => dt (g_s:=g12) 64 _ _ _ hy16 _ (s0im s0nil (hS.osl 0 rfl))] (t_end (t_sel [1] ?_))
  refine t_i2 hm (fun hm => ?_)
  refine t_skip ?_
  obtain rfl:=someE hm
  exact t_e []
 ·refine t_sel [] ?_
  refine t_r [2] [vN] [] (t_ret ?_)
  obtain rfl:=someE hm
  exact t_n [] rs1

def dF (r_ : Int) (g_ : Int) (b_ : Int) : d0 :=
  (d0.mk r_ g_ b_ 255)
theorem dW  (r_ : Int) (g_ : Int) (b_ : Int) : Ret Tryz.prog 301 ⟨[vU r_,vU g_,vU b_]⟩ (.agg ⟨e19 (dF r_ g_ b_)⟩):=by
 generalize hm : dF r_ g_ b_ = r
 rw [dF] at hm
 refine f_pure (Tryz.call301 _) Tryz.func301 Tryz.ntmps301 fun M X w => (t_starts ?_)
 refine t_m [] [] [0,1,2] [vU r_,vU g_,vU b_] (fun _ _ H hd => o_alloc [vU 0,vU 0,vU 0,vU 0] (z:=vG [vU 0,vU 0,vU 0,vU 0]) hd (by kernel_rfl) rfl) fun b1 => (t_end (t_starts ?_))
 refine t_b 4 [6,10] [vP b1,vG [vU r_,vU g_,vU b_,vU 255]] [] ?_
 refine t_m0 [0] [] [6] [vP b1] (fun _ _ H5 hd => o_store [vU r_,vU g_,vU b_,vU 255] H5 hd rfl rfl (by kernel_rfl) rfl rfl rfl) (t_end (t_ret ?_))
 subst hm
 exact t_n [] (rsa 0 Tryz.underlying242)

def gP (m : Nat) (s : Str) : Nat → Int → Option (Unit)
  | 0,_ => none
  | kk + 1,v14 =>
    cond (decide (v14 < (ln (ofB s)))) (
    chk (0 ≤ v14 ∧ v14 < ln (ofB s)) <|
    lt (cond (decide (65 ≤ (gi (ofB s) v14))) (decide ((gi (ofB s) v14) ≤ 90)) false) fun x20 =>
    cond x20 (
    none) (
    gP m s kk (w64 (v14 + 1)))) (
    some ())
def h8 (m : Nat) (s : Str) : Option (Str) :=
  Option.bind (
  gP m s m 0) fun (z11 : Unit) =>
  some (toB (ofB s))
theorem j8  (m : Nat) (s : Str) (r : Str) (hm : h8 m s = some r) : Ret Tryz.prog 255 ⟨[vS s]⟩ (vS r):=by
 rw [h8] at hm
 refine f_pure (Tryz.call255 _) Tryz.func255 Tryz.ntmps255 fun M X w => ?_
 refine t_r [0] [vS s] [] (t_starts ?_)
 refine t_b 1 [6] [vS s] [] ?_
 intro _ _ H4 hS
 have hd:=hS.hand [] [] rfl rfl
 refine m_stp [7] [] H4 rfl rfl rfl rfl (o_bytes (E:=5) H4 hd rfl (by kernel_rfl) (by kernel_rfl) (by kernel_rfl)) (fun _ => rfl) fun _ _ v H8 hq => ?_
 obtain ⟨b5,c6,rfl,hc_b5,hq⟩:=hq
 replace hS:=hS.join [] [] rfl rfl hq
 refine t_in H8 hS ?_
 refine t_b 3 [3] [.slice (some ⟨b5,0,none⟩) ((ofB s).length) c6] [] (t_end ?_)
 obtain ⟨z11,hz,hm⟩:=bindE hm
 refine t_cut [3] [.slice (some ⟨b5,0,none⟩) ((ofB s).length) c6] [Ent.row .u8 b5 (ofB s) (ln (ofB s))] ?_ ?_
 ·replace hm:=hz
  refine t_r [3,8,9,10] [.slice (some ⟨b5,0,none⟩) ((ofB s).length) c6,.slice (some ⟨b5,0,none⟩) ((ofB s).length) c6,vI (ln (ofB s)),vI 0] [] (t_block ?_)
  intro _ _ H13 hS
  refine w_loop (fun kk a' w' => ∃ (v14 : Int),gP m s kk v14 = some _ ∧ Fr 30 (fS [3,8,9,10] [.slice (some ⟨b5,0,none⟩) ((ofB s).length) c6,.slice (some ⟨b5,0,none⟩) ((ofB s).length) c6,vI (ln (ofB s)),vI v14]) a' ∧ SH M X w [Ent.row .u8 b5 (ofB s) (ln (ofB s))] w') ⟨_,0,hm,FrG.keep (ks:=[3,8,9,10]) H13 (by kernel_rfl),hS⟩ ?_
  clear hm H13 hS
  rintro kk _ _ ⟨v14,hm,H,hS⟩
  cases kk with
  | zero => exact noneE hm
  | succ kk =>
   rw [gP] at hm
   refine t_in H hS ?_
   refine t_r [3,8,9,10,11] [.slice (some ⟨b5,0,none⟩) ((ofB s).length) c6,.slice (some ⟨b5,0,none⟩) ((ofB s).length) c6,vI (ln (ofB s)),vI v14,vB (decide (v14 < (ln (ofB s))))] [] (t_seq ?_)
   refine t_im hm (fun hm => ?_) (fun hm => ?c26)
   case c26 =>
    refine t_exit ?_
    obtain rfl:=someE hm
    exact t_e [3]
   refine t_skip (t_seq (t_block ?_))
   obtain ⟨ho17,hm⟩:=chkE hm
   refine t_r [3,4,5,8,9,10] [.slice (some ⟨b5,0,none⟩) ((ofB s).length) c6,vI v14,vU (gi (ofB s) v14),.slice (some ⟨b5,0,none⟩) ((ofB s).length) c6,vI (ln (ofB s)),vI v14] [⟨none,fun _ => oka (some ⟨b5,0,none⟩) ∧ 0 ≤ v14 ∧ v14 < ln (ofB s),fun _ _ => (⟨rfl,ho17⟩)⟩,⟨some (vU (gi (ofB s) v14)),fun wz => V.at1 ⟨b5,0 + (v14).toNat * 1,none⟩ (vU (gi (ofB s) v14)) wz,fun _ hS => (Rw.ixn (hS.rw 0 rfl) ho17)⟩] ?_
   obtain ⟨x20,hx20,hm⟩:=letE hm
   refine t_r [3,4,5,8,9,10,20] [.slice (some ⟨b5,0,none⟩) ((ofB s).length) c6,vI v14,vU (gi (ofB s) v14),.slice (some ⟨b5,0,none⟩) ((ofB s).length) c6,vI (ln (ofB s)),vI v14,vB x20] [] ?_ (he:=by subst hx20; kernel_rfl)
   refine t_i2 hm (fun hm => ?_)
   refine t_skip ?_
   refine t_w [3,8,9,10] [.slice (some ⟨b5,0,none⟩) ((ofB s).length) c6,.slice (some ⟨b5,0,none⟩) ((ofB s).length) c6,vI (ln (ofB s)),vI (w64 (v14 + 1))] [] ?_
   exact fun _ _ H24 hS => ⟨_,Nat.lt_succ_self _,w64 (v14 + 1),hm,FrG.keep (ks:=[3,8,9,10]) H24 (by kernel_rfl),hS⟩
 ·intro _ _ H hS
  refine s_reg [(vS (toB (ofB s)))] [2] [(2,[],vS (toB (ofB s)))] [fun wz => ∀ w',Below wz.heap.size wz w' → (convert 201 9 (.slice (some ⟨b5,0,none⟩) ((ofB s).length) c6)).run Tryz.prog w' = .ok (vS (toB (ofB s))) w'] H (by kernel_rfl) ⟨(conv_row (E:=5) (by kernel_rfl) (by kernel_rfl) (by kernel_rfl) (hS.rw 0 rfl).1 (hS.rw 0 rfl).2),trivial⟩ fun _ _ H29 hb => ?_
  replace hS:=hS.below hb
  replace hS : SH M X w [] _:=hS.sel [] rfl
  refine t_in H29 hS (t_ret ?_)
  obtain rfl:=someE hm
  exact t_n [] rs1

def lL (m : Nat) (aL : Str) : Option (d0 × Int) :=
  lt (dF 0 0 0) fun y9 =>
  lt (dF 255 255 255) fun y14 =>
  lt (dF 255 0 0) fun y19 =>
  lt (dF 0 255 0) fun y24 =>
  lt (dF 0 0 255) fun y29 =>
  lt (dF 255 255 0) fun y34 =>
  lt (dF 128 128 128) fun y39 =>
  Option.bind (h8 m aL) fun y48 =>
  lt (x_key ([[98,108,97,99,107],[119,104,105,116,101],[114,101,100],[108,105,109,101],[98,108,117,101],[121,101,108,108,111,119],[103,114,97,121],[116,114,97,110,115,112,97,114,101,110,116]] : List Str) y48) fun x51 =>
  lt (gi ([y9.Red,y14.Red,y19.Red,y24.Red,y29.Red,y34.Red,y39.Red,0,0] : List Int) x51) fun x54 =>
  lt (gi ([y9.dp,y14.dp,y19.dp,y24.dp,y29.dp,y34.dp,y39.dp,0,0] : List Int) x51) fun x55 =>
  lt (gi ([y9.f5,y14.f5,y19.f5,y24.f5,y29.f5,y34.f5,y39.f5,0,0] : List Int) x51) fun x56 =>
  lt (gi ([y9.dq,y14.dq,y19.dq,y24.dq,y29.dq,y34.dq,y39.dq,0,0] : List Int) x51) fun x57 =>
  cond (!(decide (x51 < 8))) (
  none) (
  some ((d0.mk x54 x55 x56 x57),0))
theorem qn  (m : Nat) (aL : Str) (r : d0 × Int) (hm : lL m aL = some r) : Ret Tryz.prog 285 ⟨[vS aL]⟩ (.tuple ⟨[.agg ⟨e19 r.1⟩,vI r.2]⟩):=by
 rw [lL] at hm
 refine f_pure (Tryz.call285 _) Tryz.func285 Tryz.ntmps285 fun M X w => (t_starts ?_)
 refine t_m [] [] [0] [vS aL] (fun _ _ H hd => o_alloc [vU 0,vU 0,vU 0,vU 0] (z:=vG [vU 0,vU 0,vU 0,vU 0]) hd (by kernel_rfl) rfl) fun b1 => ?_
 refine t_b 2 [0,2] [vS aL,vP b1] [] (t_end (t_starts ?_))
 refine t_m [] [0] [0,2] [vS aL,vP b1] (fun _ _ H5 hd => o_mkmap hd) fun b6 => ?_
 obtain ⟨y9,hy9,hm⟩:=letE hm
 refine t_b 2 [0,2,7,8] [vS aL,vP b1,.map (some b6),.agg ⟨e19 y9⟩] [⟨some (.agg ⟨e19 y9⟩),rB 301 [vU 0,vU 0,vU 0] (.agg ⟨e19 y9⟩),fun _ _ => ((by rw [hy9]; exact (dW 0 0 0).b))⟩] ?_ (he:=by subst hy9; kernel_rfl)
 refine t_m0 [0] [1] [0,2,7] [vS aL,vP b1,.map (some b6)] (fun _ _ H11 hd => o_ins (kt:=9) (et:=242) H11 hd rfl rfl rfl (by kernel_rfl) (by kernel_rfl) rfl) ?_
 obtain ⟨y14,hy14,hm⟩:=letE hm
 refine t_b 4 [0,2,7,9] [vS aL,vP b1,.map (some b6),.agg ⟨e19 y14⟩] [⟨some (.agg ⟨e19 y14⟩),rB 301 [vU 255,vU 255,vU 255] (.agg ⟨e19 y14⟩),fun _ _ => ((by rw [hy14]; exact (dW 255 255 255).b))⟩] ?_ (he:=by subst hy14; kernel_rfl)
 refine t_m0 [0] [1] [0,2,7] [vS aL,vP b1,.map (some b6)] (fun _ _ H16 hd => o_ins (kt:=9) (et:=242) H16 hd rfl rfl rfl (by kernel_rfl) (by kernel_rfl) rfl) ?_
 obtain ⟨y19,hy19,hm⟩:=letE hm
 refine t_b 6 [0,2,7,10] [vS aL,vP b1,.map (some b6),.agg ⟨e19 y19⟩] [⟨some (.agg ⟨e19 y19⟩),rB 301 [vU 255,vU 0,vU 0] (.agg ⟨e19 y19⟩),fun _ _ => ((by rw [hy19]; exact (dW 255 0 0).b))⟩] ?_ (he:=by subst hy19; kernel_rfl)
 refine t_m0 [0] [1] [0,2,7] [vS aL,vP b1,.map (some b6)] (fun _ _ H21 hd => o_ins (kt:=9) (et:=242) H21 hd rfl rfl rfl (by kernel_rfl) (by kernel_rfl) rfl) ?_
 obtain ⟨y24,hy24,hm⟩:=letE hm
 refine t_b 8 [0,2,7,11] [vS aL,vP b1,.map (some b6),.agg ⟨e19 y24⟩] [⟨some (.agg ⟨e19 y24⟩),rB 301 [vU 0,vU 255,vU 0] (.agg ⟨e19 y24⟩),fun _ _ => ((by rw [hy24]; exact (dW 0 255 0).b))⟩] ?_ (he:=by subst hy24; kernel_rfl)
 refine t_m0 [0] [1] [0,2,7] [vS aL,vP b1,.map (some b6)] (fun _ _ H26 hd => o_ins (kt:=9) (et:=242) H26 hd rfl rfl rfl (by kernel_rfl) (by kernel_rfl) rfl) ?_
 obtain ⟨y29,hy29,hm⟩:=letE hm
 refine t_b 10 [0,2,7,12] [vS aL,vP b1,.map (some b6),.agg ⟨e19 y29⟩] [⟨some (.agg ⟨e19 y29⟩),rB 301 [vU 0,vU 0,vU 255] (.agg ⟨e19 y29⟩),fun _ _ => ((by rw [hy29]; exact (dW 0 0 255).b))⟩] ?_ (he:=by subst hy29; kernel_rfl)
 refine t_m0 [0] [1] [0,2,7] [vS aL,vP b1,.map (some b6)] (fun _ _ H31 hd => o_ins (kt:=9) (et:=242) H31 hd rfl rfl rfl (by kernel_rfl) (by kernel_rfl) rfl) ?_
 obtain ⟨y34,hy34,hm⟩:=letE hm
 refine t_b 12 [0,2,7,13] [vS aL,vP b1,.map (some b6),.agg ⟨e19 y34⟩] [⟨some (.agg ⟨e19 y34⟩),rB 301 [vU 255,vU 255,vU 0] (.agg ⟨e19 y34⟩),fun _ _ => ((by rw [hy34]; exact (dW 255 255 0).b))⟩] ?_ (he:=by subst hy34; kernel_rfl)
 refine t_m0 [0] [1] [0,2,7] [vS aL,vP b1,.map (some b6)] (fun _ _ H36 hd => o_ins (kt:=9) (et:=242) H36 hd rfl rfl rfl (by kernel_rfl) (by kernel_rfl) rfl) ?_
 obtain ⟨y39,hy39,hm⟩:=letE hm
 refine t_b 14 [0,2,7,14] [vS aL,vP b1,.map (some b6),.agg ⟨e19 y39⟩] [⟨some (.agg ⟨e19 y39⟩),rB 301 [vU 128,vU 128,vU 128] (.agg ⟨e19 y39⟩),fun _ _ => ((by rw [hy39]; exact (dW 128 128 128).b))⟩] ?_ (he:=by subst hy39; kernel_rfl)
 refine t_m0 [0] [1] [0,2,7] [vS aL,vP b1,.map (some b6)] (fun _ _ H41 hd => o_ins (kt:=9) (et:=242) H41 hd rfl rfl rfl (by kernel_rfl) (by kernel_rfl) rfl) ?_
 refine t_b 16 [0,2,7,15] [vS aL,vP b1,.map (some b6),vG [vU 0,vU 0,vU 0,vU 0]] [] ?_
 refine t_m0 [0] [1] [0,2,7] [vS aL,vP b1,.map (some b6)] (fun _ _ H45 hd => o_ins (kt:=9) (et:=242) H45 hd rfl rfl rfl (by kernel_rfl) (by kernel_rfl) rfl) ?_
 obtain ⟨y48,hy48,hm⟩:=bindE hm
 refine t_b 20 [2,16,18] [vP b1,.map (some b6),vS y48] [kc (j8 m _ _ hy48)] ?_
 obtain ⟨x51,hx51,hm⟩:=letE hm
 refine t_mv [0] [1] [2] [vP b1] (fun _ _ H50 hd => o_look (kt:=9) (et:=242) (z:=vG [vU 0,vU 0,vU 0,vU 0]) (ix:=x51) (fun q => vG [vU (gi ([y9.Red,y14.Red,y19.Red,y24.Red,y29.Red,y34.Red,y39.Red,0,0] : List Int) q),vU (gi ([y9.dp,y14.dp,y19.dp,y24.dp,y29.dp,y34.dp,y39.dp,0,0] : List Int) q),vU (gi ([y9.f5,y14.f5,y19.f5,y24.f5,y29.f5,y34.f5,y39.f5,0,0] : List Int) q),vU (gi ([y9.dq,y14.dq,y19.dq,y24.dq,y29.dq,y34.dq,y39.dq,0,0] : List Int) q)]) (vW [vG [vU (gi ([y9.Red,y14.Red,y19.Red,y24.Red,y29.Red,y34.Red,y39.Red,0,0] : List Int) x51),vU (gi ([y9.dp,y14.dp,y19.dp,y24.dp,y29.dp,y34.dp,y39.dp,0,0] : List Int) x51),vU (gi ([y9.f5,y14.f5,y19.f5,y24.f5,y29.f5,y34.f5,y39.f5,0,0] : List Int) x51),vU (gi ([y9.dq,y14.dq,y19.dq,y24.dq,y29.dq,y34.dq,y39.dq,0,0] : List Int) x51)],vB (decide (x51 < 8))]) H50 hd hx51 rfl rfl rfl (by kernel_rfl) (by kernel_rfl) (by kernel_rfl) rfl) ?_
 obtain ⟨x54,hx54,hm⟩:=letE hm
 obtain ⟨x55,hx55,hm⟩:=letE hm
 obtain ⟨x56,hx56,hm⟩:=letE hm
 obtain ⟨x57,hx57,hm⟩:=letE hm
 refine t_b 24 [2,20,21] [vP b1,vG [vU x54,vU x55,vU x56,vU x57],vB (decide (x51 < 8))] [] ?_ (he:=by subst hx54 hx55 hx56 hx57; kernel_rfl)
 refine t_m [] [0,1] [2,20,21] [vP b1,vG [vU x54,vU x55,vU x56,vU x57],vB (decide (x51 < 8))] (fun _ _ H59 hd => o_alloc [vU 0,vU 0,vU 0,vU 0] (z:=vG [vU 0,vU 0,vU 0,vU 0]) hd (by kernel_rfl) rfl) fun b60 => ?_
 refine t_m0 [0] [1,2] [2,4,21] [vP b1,vP b60,vB (decide (x51 < 8))] (fun _ _ H62 hd => o_store [vU x54,vU x55,vU x56,vU x57] H62 hd rfl rfl (by kernel_rfl) rfl rfl rfl) ?_
 refine t_b 27 [2,4,5] [vP b1,vP b60,vB (decide (x51 < 8))] [] (t_end (t_sel [0,2] (t_seq ?_)))
 refine t_r [2,4,23] [vP b1,vP b60,vB (!(decide (x51 < 8)))] [] ?_
 refine t_i2 hm (fun hm => ?_)
 refine t_skip (t_starts ?_)
 refine t_b 1 [2,25] [vP b1,vG [vU x54,vU x55,vU x56,vU x57]] [kE 0 4] ?_
 refine t_m0 [1] [0] [2] [vP b1] (fun _ _ H70 hd => o_store [vU x54,vU x55,vU x56,vU x57] H70 hd rfl rfl (by kernel_rfl) rfl rfl rfl) ?_
 refine t_b 3 [2,3] [vP b1,vI 0] [] (t_end (t_sel [0] (t_ret ?_)))
 obtain rfl:=someE hm
 exact t_n [] (rsav 0 Tryz.underlying242)

def lT (m : Nat) (v_ : ae) : Option (d0 × Bool) :=
  cond (v_.ax.aj == 1) (
  Option.bind (lL m v_.ax.ei) fun y13 =>
  some (y13.1,y13.2 == 0)) (
  cond (v_.ax.aj == 4) (
  none) (
  cond (v_.ax.aj == 2) (
  none) (
  some ((d0.mk 0 0 0 0),false))))
theorem qu {d9 : Gh} (m : Nat) (v_ : ae) (r : d0 × Bool) (hm : lT m v_ = some r) (w : World) (hL : S0 F0 [eI a6 v_.a8 d9] w ∧ fpl [eI a6 v_.a8 d9] = []) : RetB Tryz.prog 254 ⟨[.agg ⟨e0 v_ (gL [d9])⟩]⟩ (.tuple ⟨[.agg ⟨e19 r.1⟩,vB r.2]⟩) w:=by
 rw [lT] at hm
 refine f_read hL (Tryz.call254 _) Tryz.func254 Tryz.ntmps254 fun M X w => (t_starts ?_)
 refine t_m [] [0] [] [] (fun _ _ H hd => o_box (e0 v_ (gL [d9])) H hd rfl rfl) fun b1 => ?_
 refine t_m [] [0,1] [1] [vP b1] (fun _ _ H3 hd => o_alloc [vU 0,vU 0,vU 0,vU 0] (z:=vG [vU 0,vU 0,vU 0,vU 0]) hd (by kernel_rfl) rfl) fun b4 => ?_
 refine t_b 3 [1,2] [vP b1,vP b4] [] (t_end (t_seq ?_))
 refine t_r [1,2,9] [vP b1,vP b4,vU v_.ax.aj] [kb 1 0] (t_block ?_)
 refine t_r [1,2,9,10] [vP b1,vP b4,vU v_.ax.aj,vB (v_.ax.aj == 1)] [] ?_
 refine t_if (fun hc => ?_) (fun hc => ?c41)
 case c41 =>
  replace hm:=bF hc hm
  refine t_r [1,2,9,22] [vP b1,vP b4,vU v_.ax.aj,vB (v_.ax.aj == 4)] [] ?_
  refine t_i2 hm (fun hm => ?_)
  refine t_r [1,2,30] [vP b1,vP b4,vB (v_.ax.aj == 2)] [] ?_
  refine t_i2 hm (fun hm => ?_)
  refine t_skip (t_starts ?_)
  refine t_b 1 [2,47] [vP b4,vG [vU 0,vU 0,vU 0,vU 0]] [] ?_
  refine t_m0 [0] [1,2] [2] [vP b4] (fun _ _ H34 hd => o_store [vU 0,vU 0,vU 0,vU 0] H34 hd rfl rfl (by kernel_rfl) rfl rfl rfl) ?_
  refine t_b 3 [2,3] [vP b4,vF] [] (t_end (t_sel [0] (t_ret ?_)))
  obtain rfl:=someE hm
  exact t_n [] (rsav 0 Tryz.underlying242)
 replace hm:=bT hc hm
 refine t_starts ?_
 obtain ⟨y13,hy13,hm⟩:=bindE hm
 refine t_b 7 [2,17,18] [vP b4,.agg ⟨e19 y13.1⟩,vI y13.2] [kb 1 1,kc (qn m _ _ hy13)] ?_
 refine t_m [] [0,1,2] [2,17,18] [vP b4,.agg ⟨e19 y13.1⟩,vI y13.2] (fun _ _ H15 hd => o_alloc [vU 0,vU 0,vU 0,vU 0] (z:=vG [vU 0,vU 0,vU 0,vU 0]) hd (by kernel_rfl) rfl) fun b16 => ?_
 refine t_m0 [0] [1,2,3] [2,4,18] [vP b4,vP b16,vI y13.2] (fun _ _ H18 hd => o_store (e19 y13.1) H18 hd rfl rfl (by kernel_rfl) rfl rfl rfl) ?_
 refine t_b 10 [2,4,5] [vP b4,vP b16,vI y13.2] [] (t_end (t_sel [0,1] (t_starts ?_)))
 refine t_b 3 [2,19,21] [vP b4,.agg ⟨e19 y13.1⟩,vB (y13.2 == 0)] [kE 0 4] ?_
 refine t_m0 [1] [0] [2,21] [vP b4,vB (y13.2 == 0)] (fun _ _ H24 hd => o_store (e19 y13.1) H24 hd rfl rfl (by kernel_rfl) rfl rfl rfl) ?_
 refine t_b 5 [2,3] [vP b4,vB (y13.2 == 0)] [] (t_end (t_sel [0] (t_ret ?_)))
 obtain rfl:=someE hm
 exact t_n [] (rsav 0 Tryz.underlying242)

def lX (m : Nat) (v_ : ae) : Option (List du) :=
  Option.bind (
  Option.bind (lT m v_) fun y16 =>
  cond y16.2 (
  chk (ln ([] : List du) + ln ([(du.mk 7 [] 0 y16.1)] : List du) ≤ 137438953472) <|
  lt (([] : List du) ++ ([(du.mk 7 [] 0 y16.1)] : List du)) fun q36 =>
  some q36) (
  some ([] : List du))) fun (z15 : List du) =>
  Option.bind (
  cond (v_.ax.aj == 1) (
  Option.bind (h8 m v_.ax.ei) fun y51 =>
  chk (ln z15 + ln ([(du.mk 1 y51 0 (d0.mk 0 0 0 0))] : List du) ≤ 137438953472) <|
  lt (z15 ++ ([(du.mk 1 y51 0 (d0.mk 0 0 0 0))] : List du)) fun q61 =>
  lt (y51 == [99,117,114,114,101,110,116,99,111,108,111,114]) fun x67 =>
  cond x67 (
  none) (
  some q61)) (
  cond (v_.ax.aj == 12) (
  Option.bind (h8 m v_.ax.Unit) fun y82 =>
  lt (x_key ([[112,120],[101,109],[114,101,109]] : List Str) y82) fun x85 =>
  lt (decide (0 < (gi kL0 x85))) fun x90 =>
  cond x90 (
  chk (ln z15 + ln ([(du.mk (gi kL0 x85) [] v_.ax.Num (d0.mk 0 0 0 0))] : List du) ≤ 137438953472) <|
  lt (z15 ++ ([(du.mk (gi kL0 x85) [] v_.ax.Num (d0.mk 0 0 0 0))] : List du)) fun q100 =>
  some q100) (
  some z15)) (
  none))) fun (z46 : List du) =>
  some z46
theorem qz {d9 : Gh} (m : Nat) (v_ : ae) (r : List du) (hm : lX m v_ = some r) : DoesM Tryz.prog 217 ⟨[.agg ⟨e0 v_ (gL [d9])⟩]⟩ [eI a6 v_.a8 d9] (fun (aA : Gh) => vL aA r) (fun aA => [eO 244 nf r aA]):=by
 rw [lX] at hm
 refine f_mem (Tryz.call217 _) Tryz.func217 Tryz.ntmps217 fun M X w => (t_starts ?_)
 refine t_m [] [0] [] [] (fun _ _ H hd => o_box (e0 v_ (gL [d9])) H hd rfl rfl) fun b1 => ?_
 refine t_b 2 [1] [vP b1] [] (t_end (t_starts ?_))
 refine t_b 2 [1,10] [vP b1,.agg ⟨e6 v_.ax⟩] [kE 0 5] ?_
 refine t_m [] [0,1] [1,10] [vP b1,.agg ⟨e6 v_.ax⟩] (fun _ _ H7 hd => o_alloc [vU 0,vN,vI 0,vN,vF] (z:=vG [vU 0,vN,vI 0,vN,vF]) hd (by kernel_rfl) rfl) fun b8 => ?_
 refine t_m0 [0] [1,2] [1,3] [vP b1,vP b8] (fun _ _ H10 hd => o_store (e6 v_.ax) H10 hd rfl rfl (by kernel_rfl) rfl rfl rfl) (t_end ?_)
 refine t_r [1,3,4] [vP b1,vP b8,vO] [] ?_
 obtain ⟨z15,hz,hm⟩:=bindE hm
 refine t_cutg [3,4] (fun (g44 : Gh) => [vP b8,vL g44 z15]) (fun g44 => [eO 244 nf z15 g44,eB b8 (e6 v_.ax),eB b1 (e0 v_ (gL [d9])),eI a6 v_.a8 d9]) ?_ ?_
 ·replace hm:=hz
  refine t_starts ?_
  obtain ⟨y16,hy16,hm⟩:=bindE hm
  refine t_b 5 [3,4,14,15] [vP b8,vO,.agg ⟨e19 y16.1⟩,vB y16.2] [kE 1 6,kr fun _ hS => qu (d9:=d9) m _ _ hy16 _ (s0im s0nil (hS.im 2 rfl))] ?_
  refine t_m [] [0,1,2] [3,4,14,15] [vP b8,vO,.agg ⟨e19 y16.1⟩,vB y16.2] (fun _ _ H18 hd => o_alloc [vU 0,vU 0,vU 0,vU 0] (z:=vG [vU 0,vU 0,vU 0,vU 0]) hd (by kernel_rfl) rfl) fun b19 => ?_
  refine t_m0 [0] [1,2,3] [3,4,5,15] [vP b8,vO,vP b19,vB y16.2] (fun _ _ H21 hd => o_store (e19 y16.1) H21 hd rfl rfl (by kernel_rfl) rfl rfl rfl) ?_
  refine t_b 8 [3,4,5,6] [vP b8,vO,vP b19,vB y16.2] [] (t_end ?_)
  refine t_r [3,4,5,16] [vP b8,vO,vP b19,vB y16.2] [] ?_
  refine t_im hm (fun hm => ?_) (fun hm => ?c43)
  case c43 =>
   refine t_skip ?_
   obtain rfl:=someE hm
   refine t_nil 244 nf (t_sel [0,2,3,4] ?_)
   exact t_eg Gh.nil [3,4]
  refine t_start ?_
  refine t_b 3 [3,17,19] [vP b8,vO,vG [vU 7,vN,vI 0,vU y16.1.Red,vU y16.1.dp,vU y16.1.f5,vU y16.1.dq]] [kE 0 4] ?_
  refine t_m [] [0,1,2,3] [3,17] [vP b8,vO] (fun _ _ H29 hd => o_li (T:=nf) (E:=244) (zv:=vG [vU 0,vN,vI 0,vU 0,vU 0,vU 0,vU 0]) [vU 7,vN,vI 0,vU y16.1.Red,vU y16.1.dp,vU y16.1.f5,vU y16.1.dq] ([(du.mk 7 [] 0 y16.1)] : List du) [gL []] H29 hd rfl (InnL.cons trivial InnL.nil)) fun g30 => ?_
  refine t_nil 244 nf ?_
  obtain ⟨ho35,hm⟩:=chkE hm
  obtain ⟨q36,hq36,hm⟩:=letE hm
  refine t_m [0,1] [2,3,4,5] [3] [vP b8] (fun _ _ H33 hd => o_app2 (T:=nf) (zv:=vG [vU 0,vN,vI 0,vU 0,vU 0,vU 0,vU 0]) (g1:=Gh.nil) (g2:=g30) (l1:=([] : List du)) (l2:=([(du.mk 7 [] 0 y16.1)] : List du)) q36 hq36.symm H33 hd rfl rfl rfl rfl rfl rfl rfl (by kernel_rfl) (by kernel_rfl) rfl rfl ho35) fun g39 => ?_
  refine t_b 6 [3,4] [vP b8,vL g39 q36] [] (t_end (t_sel [0,3,4,5] ?_))
  obtain rfl:=someE hm
  exact t_eg g39 [3,4]
 ·intro g44
  refine t_sel [0,1] ?_
  obtain ⟨z46,hz,hm⟩:=bindE hm
  refine t_cutg [4] (fun (pm : Gh) => [vL pm z46]) (fun pm => [eO 244 nf z46 pm,eB b8 (e6 v_.ax)]) ?_ ?_
  ·replace hm:=hz
   refine t_r [3,4,23] [vP b8,vL g44 z15,vU v_.ax.aj] [kb 1 0] (t_block ?_)
   refine t_r [3,4,23,24] [vP b8,vL g44 z15,vU v_.ax.aj,vB (v_.ax.aj == 1)] [] ?_
   refine t_im hm (fun hm => ?c108) (fun hm => ?_)
   case c108 =>
    obtain ⟨y51,hy51,hm⟩:=bindE hm
    refine t_r [4,7] [vL g44 z15,vS y51] [kb 1 1,kc (j8 m _ _ hy51)] (t_starts ?_)
    refine t_b 3 [7,29,31] [vS y51,vL g44 z15,vG [vU 1,vS y51,vI 0,vU 0,vU 0,vU 0,vU 0]] [] ?_
    refine t_m [] [0,1] [7,29] [vS y51,vL g44 z15] (fun _ _ H55 hd => o_li (T:=nf) (E:=244) (zv:=vG [vU 0,vN,vI 0,vU 0,vU 0,vU 0,vU 0]) [vU 1,vS y51,vI 0,vU 0,vU 0,vU 0,vU 0] ([(du.mk 1 y51 0 (d0.mk 0 0 0 0))] : List du) [gL []] H55 hd rfl (InnL.cons trivial InnL.nil)) fun g56 => ?_
    obtain ⟨ho60,hm⟩:=chkE hm
    obtain ⟨q61,hq61,hm⟩:=letE hm
    refine t_m [1,0] [2] [7] [vS y51] (fun _ _ H59 hd => o_app2 (T:=nf) (zv:=vG [vU 0,vN,vI 0,vU 0,vU 0,vU 0,vU 0]) (g1:=g44) (g2:=g56) (l1:=z15) (l2:=([(du.mk 1 y51 0 (d0.mk 0 0 0 0))] : List du)) q61 hq61.symm H59 hd rfl rfl rfl rfl rfl rfl rfl (by kernel_rfl) (by kernel_rfl) rfl rfl ho60) fun g64 => ?_
    refine t_b 6 [4,7] [vL g64 q61,vS y51] [] (t_end (t_sel [0,2] ?_))
    obtain ⟨x67,hx67,hm⟩:=letE hm
    refine t_r [4,35] [vL g64 q61,vB x67] [] ?_ (he:=by subst hx67; kernel_rfl)
    refine t_i2 hm (fun hm => ?_)
    refine t_skip ?_
    obtain rfl:=someE hm
    exact t_eg g64 [4]
   refine t_r [3,4,23,40] [vP b8,vL g44 z15,vU v_.ax.aj,vB (v_.ax.aj == 12)] [] ?_
   refine t_i1 hm (fun hm => ?_)
   refine t_starts ?_
   refine t_m [] [0,1] [3,4] [vP b8,vL g44 z15] (fun _ _ H72 hd => o_mkmap hd) fun b73 => ?_
   refine t_m0 [0] [1,2] [3,4,42] [vP b8,vL g44 z15,.map (some b73)] (fun _ _ H75 hd => o_ins (kt:=9) (et:=5) H75 hd rfl rfl rfl (by kernel_rfl) (by kernel_rfl) rfl) ?_
   refine t_m0 [0] [1,2] [3,4,42] [vP b8,vL g44 z15,.map (some b73)] (fun _ _ H77 hd => o_ins (kt:=9) (et:=5) H77 hd rfl rfl rfl (by kernel_rfl) (by kernel_rfl) rfl) ?_
   refine t_m0 [0] [1,2] [3,4,42] [vP b8,vL g44 z15,.map (some b73)] (fun _ _ H79 hd => o_ins (kt:=9) (et:=5) H79 hd rfl rfl rfl (by kernel_rfl) (by kernel_rfl) rfl) ?_
   obtain ⟨y82,hy82,hm⟩:=bindE hm
   refine t_b 8 [3,4,43,46] [vP b8,vL g44 z15,.map (some b73),vS y82] [kb 2 3,kc (j8 m _ _ hy82)] ?_
   obtain ⟨x85,hx85,hm⟩:=letE hm
   refine t_mv [0] [1,2] [3,4] [vP b8,vL g44 z15] (fun _ _ H84 hd => o_look (kt:=9) (et:=5) (z:=vU 0) (ix:=x85) (fun q => vU (gi kL0 q)) (vU (gi kL0 x85)) H84 hd hx85 rfl rfl rfl (by kernel_rfl) (by kernel_rfl) (by kernel_rfl) rfl) ?_
   refine t_b 10 [3,4,8] [vP b8,vL g44 z15,vU (gi kL0 x85)] [] (t_end (t_sel [1,2] ?_))
   obtain ⟨x90,hx90,hm⟩:=letE hm
   refine t_r [3,4,8,49] [vP b8,vL g44 z15,vU (gi kL0 x85),vB x90] [] ?_ (he:=by subst hx90; kernel_rfl)
   refine t_im hm (fun hm => ?_) (fun hm => ?c106)
   case c106 =>
    refine t_skip ?_
    obtain rfl:=someE hm
    exact t_eg g44 [4]
   refine t_start ?_
   refine t_b 5 [50,54] [vL g44 z15,vG [vU (gi kL0 x85),vN,vI v_.ax.Num,vU 0,vU 0,vU 0,vU 0]] [kb 1 2] ?_
   refine t_m [] [0,1] [50] [vL g44 z15] (fun _ _ H94 hd => o_li (T:=nf) (E:=244) (zv:=vG [vU 0,vN,vI 0,vU 0,vU 0,vU 0,vU 0]) [vU (gi kL0 x85),vN,vI v_.ax.Num,vU 0,vU 0,vU 0,vU 0] ([(du.mk (gi kL0 x85) [] v_.ax.Num (d0.mk 0 0 0 0))] : List du) [gL []] H94 hd rfl (InnL.cons trivial InnL.nil)) fun g95 => ?_
   obtain ⟨ho99,hm⟩:=chkE hm
   obtain ⟨q100,hq100,hm⟩:=letE hm
   refine t_m [1,0] [2] [] [] (fun _ _ H98 hd => o_app2 (T:=nf) (zv:=vG [vU 0,vN,vI 0,vU 0,vU 0,vU 0,vU 0]) (g1:=g44) (g2:=g95) (l1:=z15) (l2:=([(du.mk (gi kL0 x85) [] v_.ax.Num (d0.mk 0 0 0 0))] : List du)) q100 hq100.symm H98 hd rfl rfl rfl rfl rfl rfl rfl (by kernel_rfl) (by kernel_rfl) rfl rfl ho99) fun rK => ?_
   refine t_b 8 [4] [vL rK q100] [] (t_end (t_sel [0,2] ?_))
   obtain rfl:=someE hm
   exact t_eg rK [4]
  ·intro pm
   refine t_sel [0] ?_
   refine t_r [2] [vL pm z46] [] (t_ret ?_)
   obtain rfl:=someE hm
   exact t_g pm [0] rs1

def oe (v_ : du) : Option (Int) :=
  Option.bind (
  cond (v_.aj == 1) (
  some (v_.jz,0,0,0,0,0)) (
  cond (v_.aj == 6) (
  none) (
  Option.bind (
  cond (v_.aj == 2) (
  some (v_.aj == 2)) (
  cond (v_.aj == 3) (
  some (v_.aj == 3)) (
  cond (v_.aj == 4) (
  some (v_.aj == 4)) (
  some (v_.aj == 5))))) fun (z26 : Bool) =>
  cond z26 (
  lt (if v_.Num < 1000000000000 then v_.Num else 1000000000000) fun x38 =>
  lt (if (-1000000000000) < x38 then x38 else (-1000000000000)) fun x39 =>
  some ([],x39,0,0,0,0)) (
  cond (v_.aj == 7) (
  some ([],0,v_.aX.Red,v_.aX.dp,v_.aX.f5,v_.aX.dq)) (
  none))))) fun (z15 : Str × Int × Int × Int × Int × Int) =>
  lt (!((v_.aj == v_.aj) && ((v_.jz == z15.1) && ((v_.Num == z15.2.1) && (((v_.aX.Red == z15.2.2.1) && ((v_.aX.dp == z15.2.2.2.1) && ((v_.aX.f5 == z15.2.2.2.2.1) && ((v_.aX.dq == z15.2.2.2.2.2) && true)))) && true))))) fun x55 =>
  lt (cond x55 true (cond (v_.aj == 1) (v_.jz == []) false)) fun x56 =>
  cond x56 (
  none) (
  some 0)
theorem sj  (v_ : du) (r : Int) (hm : oe v_ = some r) : Ret Tryz.prog 256 ⟨[.agg ⟨e20 v_⟩]⟩ (vI r):=by
 rw [oe] at hm
 refine f_pure (Tryz.call256 _) Tryz.func256 Tryz.ntmps256 fun M X w => (t_starts ?_)
 refine t_m [] [] [] [] (fun _ _ H hd => o_box (e20 v_) H hd rfl rfl) fun b1 => ?_
 refine t_b 2 [1] [vP b1] [] (t_end (t_starts ?_))
 refine t_b 3 [1,7] [vP b1,vG [vU v_.aj,vN,vI 0,vU 0,vU 0,vU 0,vU 0]] [kb 0 0] ?_
 refine t_m [] [0] [1,7] [vP b1,vG [vU v_.aj,vN,vI 0,vU 0,vU 0,vU 0,vU 0]] (fun _ _ H7 hd => o_alloc [vU 0,vN,vI 0,vU 0,vU 0,vU 0,vU 0] (z:=vG [vU 0,vN,vI 0,vU 0,vU 0,vU 0,vU 0]) hd (by kernel_rfl) rfl) fun b8 => ?_
 refine t_m0 [0] [1] [1,3] [vP b1,vP b8] (fun _ _ H10 hd => o_store [vU v_.aj,vN,vI 0,vU 0,vU 0,vU 0,vU 0] H10 hd rfl rfl (by kernel_rfl) rfl rfl rfl) (t_end ?_)
 refine t_r [1,3,4] [vP b1,vP b8,vI 1000000000000] [] ?_
 obtain ⟨z15,hz,hm⟩:=bindE hm
 refine t_cut [1,3] [vP b1,vP b8] [eB b8 [vU v_.aj,vS z15.1,vI z15.2.1,vU z15.2.2.1,vU z15.2.2.2.1,vU z15.2.2.2.2.1,vU z15.2.2.2.2.2],eB b1 (e20 v_)] ?_ ?_
 ·replace hm:=hz
  refine t_r [1,3,4,9] [vP b1,vP b8,vI 1000000000000,vU v_.aj] [kb 1 0] (t_block (t_seq (t_block (t_seq (t_block (t_seq (t_block (t_seq (t_block (t_seq (t_block (t_seq (t_block (t_seq (t_seq ?_)))))))))))))))
  refine t_r [1,3,4,9,10] [vP b1,vP b8,vI 1000000000000,vU v_.aj,vB (v_.aj == 1)] [] ?_
  refine t_im hm (fun hm => ?c54) (fun hm => ?_)
  case c54 =>
   refine t_exit (t_starts ?_)
   refine t_b 3 [1,3,24,25] [vP b1,vP b8,vS v_.jz,vA b8 1] [kb 1 1] ?_
   refine t_m0 [0] [1] [1,3] [vP b1,vP b8] (fun _ _ H21 hd => o_store [vU v_.aj,vS v_.jz,vI 0,vU 0,vU 0,vU 0,vU 0] H21 hd rfl rfl (by kernel_rfl) rfl rfl rfl) (t_end ?_)
   refine t_exit ?_
   obtain rfl:=someE hm
   exact t_e [1,3]
  refine t_skip (t_seq ?_)
  refine t_r [1,3,4,9,12] [vP b1,vP b8,vI 1000000000000,vU v_.aj,vB (v_.aj == 6)] [] ?_
  refine t_im hm (fun hm => ?c53) (fun hm => ?_)
  case c53 =>
   refine t_exit ?_
   intro _ _ H25 hS
   exact noneE hm
  refine t_skip (t_seq ?_)
  obtain ⟨z26,hz,hm⟩:=bindE hm
  refine t_cut [1,3,4,9,14] [vP b1,vP b8,vI 1000000000000,vU v_.aj,vB z26] [eB b8 [vU v_.aj,vN,vI 0,vU 0,vU 0,vU 0,vU 0],eB b1 (e20 v_)] ?_ ?_
  ·replace hm:=hz
   refine t_r [1,3,4,9,14] [vP b1,vP b8,vI 1000000000000,vU v_.aj,vB (v_.aj == 2)] [] ?_
   refine t_im hm (fun hm => ?c37) (fun hm => ?_)
   case c37 =>
    refine t_skip ?_
    obtain rfl:=someE hm
    exact t_e [1,3,4,9,14]
   refine t_r [1,3,4,9,14] [vP b1,vP b8,vI 1000000000000,vU v_.aj,vB (v_.aj == 3)] [] ?_
   refine t_im hm (fun hm => ?c36) (fun hm => ?_)
   case c36 =>
    refine t_skip ?_
    obtain rfl:=someE hm
    exact t_e [1,3,4,9,14]
   refine t_r [1,3,4,9,14] [vP b1,vP b8,vI 1000000000000,vU v_.aj,vB (v_.aj == 4)] [] ?_
   refine t_im hm (fun hm => ?c35) (fun hm => ?_)
   case c35 =>
    refine t_skip ?_
    obtain rfl:=someE hm
    exact t_e [1,3,4,9,14]
   refine t_w [1,3,4,9,14] [vP b1,vP b8,vI 1000000000000,vU v_.aj,vB (v_.aj == 5)] [] ?_
   obtain rfl:=someE hm
   exact t_e [1,3,4,9,14]
  ·refine t_if (fun hc => ?c51) (fun hc => ?_)
   case c51 =>
    replace hm:=bT hc hm
    refine t_exit (t_starts ?_)
    obtain ⟨x38,hx38,hm⟩:=letE hm
    obtain ⟨x39,hx39,hm⟩:=letE hm
    refine t_b 8 [1,3,34,35] [vP b1,vP b8,vI x39,vA b8 2] [kb 1 2] ?_ (he:=by subst hx38 hx39; kernel_rfl)
    refine t_m0 [0] [1] [1,3] [vP b1,vP b8] (fun _ _ H41 hd => o_store [vU v_.aj,vN,vI x39,vU 0,vU 0,vU 0,vU 0] H41 hd rfl rfl (by kernel_rfl) rfl rfl rfl) (t_end ?_)
    refine t_exit ?_
    obtain rfl:=someE hm
    exact t_e [1,3]
   replace hm:=bF hc hm
   refine t_skip (t_seq ?_)
   refine t_r [1,3,9,19] [vP b1,vP b8,vU v_.aj,vB (v_.aj == 7)] [] ?_
   refine t_im hm (fun hm => ?_) (fun hm => ?c50)
   case c50 =>
    refine t_skip ?_
    intro _ _ H45 hS
    exact noneE hm
   refine t_exit (t_starts ?_)
   refine t_b 3 [1,3,37,38] [vP b1,vP b8,.agg ⟨e19 v_.aX⟩,vA b8 3] [⟨some (.agg ⟨e19 v_.aX⟩),fun wz => V.atN b1 3 (e19 v_.aX) 0 wz,fun _ hS => ((hS.bk 1 rfl).atD rfl)⟩] ?_
   refine t_m0 [0] [1] [1,3] [vP b1,vP b8] (fun _ _ H47 hd => o_store [vU v_.aj,vN,vI 0,vU v_.aX.Red,vU v_.aX.dp,vU v_.aX.f5,vU v_.aX.dq] H47 hd rfl rfl (by kernel_rfl) rfl rfl rfl) (t_end ?_)
   refine t_exit ?_
   obtain rfl:=someE hm
   exact t_e [1,3]
 ·refine t_seq ?_
  obtain ⟨x55,hx55,hm⟩:=letE hm
  obtain ⟨x56,hx56,hm⟩:=letE hm
  refine t_r [51] [vB x56] [kE 1 7,kE 0 7,kgb (x55 = false ∧ True) 1 0,kgb ((v_.aj == 1) = true ∧ x55 = false ∧ True) 1 1] ?_ (he:=by subst hx55 hx56; kernel_rfl)
  refine t_sel [] ?_
  refine t_i2 hm (fun hm => ?_)
  refine t_skip ?_
  refine t_r [2] [vI 0] [] (t_ret ?_)
  obtain rfl:=someE hm
  exact t_n [] rs1

def em (m : Nat) (s : List Int) (v_ : Int) : Nat → Int → Option (Sum (Int) (Unit))
  | 0,_ => none
  | kk + 1,v6 =>
    cond (decide (v6 < (ln s))) (
    chk (0 ≤ v6 ∧ v6 < ln s) <|
    cond (v_ == (gi s v6)) (
    some (.inl v6)) (
    em m s v_ kk (w64 (v6 + 1)))) (
    some (.inr ()))
def fT (m : Nat) (s : List Int) (v_ : Int) : Option (Int) :=
  Option.bind (
  em m s v_ m 0) fun (z3 : Sum (Int) (Unit)) => sumK z3 fun s_z3 =>
  some (-1)
theorem lx {g_s : Gh} (m : Nat) (s : List Int) (v_ : Int) (r : Int) (hm : fT m s v_ = some r) (w : World) (hL : S0 F0 [eI (tI .u8) s g_s] w ∧ fpl [eI (tI .u8) s g_s] = []) : RetB Tryz.prog 288 ⟨[vL g_s s,vU v_]⟩ (vI r) w:=by
 rw [fT] at hm
 refine f_read hL (Tryz.call288 _) Tryz.func288 Tryz.ntmps288 fun M X w => ?_
 refine t_r [0,1] [vL g_s s,vU v_] [] ?_
 obtain ⟨z3,hz,hm_z3⟩:=bindE hm
 intro _ _ H2 hS
 refine w_cut (fun a' w' => ∃ s_z3 : Unit,z3 = Sum.inr s_z3 ∧ Fr 19 [] a' ∧ SH M X w [eI (tI .u8) s g_s] w') ?_ ?_
 ·replace hm:=hz
  refine t_in H2 hS ?_
  refine t_r [0,1,7,8] [vL g_s s,vU v_,vI (ln s),vI 0] [] (t_block ?_)
  intro _ _ H5 hS
  refine w_loop (fun kk a' w' => ∃ (v6 : Int),em m s v_ kk v6 = some _ ∧ Fr 19 (fS [0,1,7,8] [vL g_s s,vU v_,vI (ln s),vI v6]) a' ∧ SH M X w [eI (tI .u8) s g_s] w') ⟨_,0,hm,FrG.keep (ks:=[0,1,7,8]) H5 (by kernel_rfl),hS⟩ ?_
  clear hm H5 hS
  rintro kk _ _ ⟨v6,hm,H,hS⟩
  cases kk with
  | zero => exact noneE hm
  | succ kk =>
   rw [em] at hm
   refine t_in H hS ?_
   refine t_r [0,1,7,8,9] [vL g_s s,vU v_,vI (ln s),vI v6,vB (decide (v6 < (ln s)))] [] (t_seq ?_)
   refine t_im hm (fun hm => ?_) (fun hm => ?c19)
   case c19 =>
    refine t_exit ?_
    obtain rfl:=someE hm
    exact fun _ _ H8 hS => ⟨_,rfl,FrG.keep (ks:=[]) H8 (by kernel_rfl),hS⟩
   refine t_skip (t_seq (t_block ?_))
   refine t_r [0,1,5,7,8] [vL g_s s,vU v_,vI v6,vI (ln s),vI v6] [] ?_
   obtain ⟨ho11,hm⟩:=chkE hm
   refine t_r [0,1,5,7,8,16] [vL g_s s,vU v_,vI v6,vI (ln s),vI v6,vB (v_ == (gi s v6))] [ki 0 ho11,kj 0 0 ho11] ?_
   refine t_im hm (fun hm => ?_) (fun hm => ?c18)
   case c18 =>
    refine t_skip ?_
    refine t_w [0,1,7,8] [vL g_s s,vU v_,vI (ln s),vI (w64 (v6 + 1))] [] ?_
    exact fun _ _ H17 hS => ⟨_,Nat.lt_succ_self _,w64 (v6 + 1),hm,FrG.keep (ks:=[0,1,7,8]) H17 (by kernel_rfl),hS⟩
   refine t_r [4] [vI v6] [] (t_ret ?_)
   obtain rfl:=someE hm
   have hm:=hm_z3
   obtain rfl:=someE hm
   exact t_n [] rs1
 ·rintro _ _ ⟨s_z3,hz,H,hS⟩
  subst hz
  replace hm:=sumR hm_z3
  replace hS : SH M X w [] _:=hS.sel [] rfl
  refine t_in H hS ?_
  refine t_r [4] [vI (-1)] [] (t_ret ?_)
  obtain rfl:=someE hm
  exact t_n [] rs1

def fb (m : Nat) (s : List Int) (v_ : Int) : Option (Bool) :=
  Option.bind (fT m s v_) fun y3 =>
  some (decide (0 ≤ y3))
theorem k7 {g_s : Gh} (m : Nat) (s : List Int) (v_ : Int) (r : Bool) (hm : fb m s v_ = some r) (w : World) (hL : S0 F0 [eI (tI .u8) s g_s] w ∧ fpl [eI (tI .u8) s g_s] = []) : RetB Tryz.prog 257 ⟨[vL g_s s,vU v_]⟩ (vB r) w:=by
 rw [fb] at hm
 refine f_read hL (Tryz.call257 _) Tryz.func257 Tryz.ntmps257 fun M X w => ?_
 refine t_r [0,1] [vL g_s s,vU v_] [] ?_
 obtain ⟨y3,hy3,hm⟩:=bindE hm
 refine t_r [4] [vB (decide (0 ≤ y3))] [kr fun _ hS => lx (g_s:=g_s) m _ _ _ hy3 _ (s0im s0nil (hS.im 0 rfl))] (t_sel [] (t_ret ?_))
 obtain rfl:=someE hm
 exact t_n [] rs1

def qG (m : Nat) (eR : Int) (v_ : du) : Option (Bool × Int) :=
  lt (cond (decide (eR < 0)) true (decide (18 ≤ eR))) fun x6 =>
  cond x6 (
  none) (
  Option.bind (kR m) fun y9 =>
  chk (0 ≤ eR ∧ eR < ln y9) <|
  Option.bind (oe v_) fun y22 =>
  cond (y22 != 0) (
  none) (
  cond (v_.aj == 1) (
  Option.bind (cw 64 ((gi y9 eR).cB) v_.jz) fun y27 =>
  some (y27,0)) (
  Option.bind (fb m ((gi y9 eR).cD) v_.aj) fun y30 =>
  lt (cond y30 (cond (!((gi y9 eR).mj)) true (decide (0 ≤ v_.Num))) false) fun x31 =>
  some (x31,0))))
theorem uJ  (m : Nat) (eR : Int) (v_ : du) (r : Bool × Int) (hm : qG m eR v_ = some r) (w : World) (hL : S0 F0 [gE4] w ∧ fpl [gE4] = []) : RetB Tryz.prog 218 ⟨[vI eR,.agg ⟨e20 v_⟩]⟩ (vW [vB r.1,vI r.2]) w:=by
 rw [qG] at hm
 refine f_read hL (Tryz.call218 _) Tryz.func218 Tryz.ntmps218 fun M X w => (t_starts ?_)
 refine t_m [] [0] [0] [vI eR] (fun _ _ H hd => o_box (e20 v_) H hd rfl rfl) fun b1 => ?_
 refine t_b 3 [0,3] [vI eR,vP b1] [] (t_end (t_seq ?_))
 obtain ⟨x6,hx6,hm⟩:=letE hm
 refine t_r [0,3,12] [vI eR,vP b1,vB x6] [] ?_ (he:=by subst hx6; kernel_rfl)
 refine t_i2 hm (fun hm => ?_)
 refine t_skip (t_starts ?_)
 obtain ⟨y9,hy9,hm⟩:=bindE hm
 refine t_c [1] [0,1] [0,3] [vI eR,vP b1] (lM m _ hy9) fun g10 => ?_
 obtain ⟨ho14,hm⟩:=chkE hm
 refine t_b 4 [3,16] [vP b1,.agg ⟨e21 (gi y9 eR) (g10.s (eR).toNat)⟩] [kI 0 ho14,⟨some (.agg ⟨e21 (gi y9 eR) (g10.s (eR).toNat)⟩),fun wz => V.atN (ab g10.a) (ao g10.a + (eR).toNat * 12) (e21 (gi y9 eR) (g10.s (eR).toNat)) 0 wz,fun _ hS => ((hS.osl 0 rfl).atA ho14 0 rfl)⟩] ?_
 refine t_m [] [0,1,2] [3,16] [vP b1,.agg ⟨e21 (gi y9 eR) (g10.s (eR).toNat)⟩] (fun _ _ H16 hd => o_alloc [vN,vF,vU 0,vN,vI 0,vU 0,vU 0,vU 0,vU 0,vO,vO,vF] (z:=vG [vN,vF,vU 0,vN,vI 0,vU 0,vU 0,vU 0,vU 0,vO,vO,vF]) hd (by kernel_rfl) rfl) fun b17 => ?_
 refine t_m0 [0] [1,2,3] [3,6] [vP b1,vP b17] (fun _ _ H19 hd => o_store (e21 (gi y9 eR) (g10.s (eR).toNat)) H19 hd rfl rfl (by kernel_rfl) rfl rfl rfl) (t_end (t_seq (t_block ?_)))
 obtain ⟨y22,hy22,hm⟩:=bindE hm
 refine t_r [3,6,17] [vP b1,vP b17,vB (y22 != 0)] [kE 2 7,kc (sj _ _ hy22)] ?_
 refine t_i2 hm (fun hm => ?_)
 refine t_r [3,6,21] [vP b1,vP b17,vB (v_.aj == 1)] [kb 2 0] ?_
 refine t_im hm (fun hm => ?c34) (fun hm => ?_)
 case c34 =>
  obtain ⟨y27,hy27,hm⟩:=bindE hm
  refine t_r [4,5] [vB y27,vI 0] [kb 0 9,kb 2 1,kr fun _ hS => dt (g_s:=(g10.s (eR).toNat 0)) 64 _ _ _ hy27 _ (s0im s0nil (u2 ((hS.osl 1 rfl).el ho14)))] (t_sel [3] (t_ret ?_))
  obtain rfl:=someE hm
  exact t_n [] rs2
 refine t_skip ?_
 obtain ⟨y30,hy30,hm⟩:=bindE hm
 obtain ⟨x31,hx31,hm⟩:=letE hm
 refine t_r [4,5] [vB x31,vI 0] [kb 0 10,kb 2 0,kr fun _ hS => k7 (g_s:=(g10.s (eR).toNat 1)) m _ _ _ hy30 _ (s0im s0nil (tY ((hS.osl 1 rfl).el ho14))),kgb (y30 = true ∧ True) 0 11,kgb ((!((gi y9 eR).mj)) = false ∧ y30 = true ∧ True) 2 2] ?_ (he:=by subst hx31; kernel_rfl)
 refine t_sel [3] (t_ret ?_)
 obtain rfl:=someE hm
 exact t_n [] rs2

def gO (m : Nat) (eR : Int) (y16 : List du) : Nat → Int → Option (Sum (du × Int) (Unit))
  | 0,_ => none
  | kk + 1,v23 =>
    cond (decide (v23 < (ln y16))) (
    chk (0 ≤ v23 ∧ v23 < ln y16) <|
    Option.bind (qG 64 eR (gi y16 v23)) fun y34 =>
    cond y34.1 (
    some (.inl ((gi y16 v23),0))) (
    gO m eR y16 kk (w64 (v23 + 1)))) (
    some (.inr ()))
def m4 (m : Nat) (eR : Int) (l_ : List ae) : Option (du × Int) :=
  lt (cond (decide (eR < 0)) true (decide (18 ≤ eR))) fun x6 =>
  cond x6 (
  none) (
  cond ((ln l_) != 1) (
  none) (
  Option.bind (
  chk (0 ≤ (0 : Int) ∧ (0 : Int) < ln l_) <|
  Option.bind (lX m (gi l_ (0 : Int))) fun y16 =>
  gO m eR y16 m 0) fun (z11 : Sum (du × Int) (Unit)) => sumK z11 fun s_z11 =>
  some ((du.mk 0 [] 0 (d0.mk 0 0 0 0)),12)))
theorem qp {aa : Gh} (m : Nat) (eR : Int) (l_ : List ae) (r : du × Int) (hm : m4 m eR l_ = some r) (w : World) (hL : S0 F0 [eI a6 l_ aa,gE4] w ∧ fpl [eI a6 l_ aa,gE4] = []) : RetB Tryz.prog 160 ⟨[vI eR,vL aa l_]⟩ (.tuple ⟨[.agg ⟨e20 r.1⟩,vI r.2]⟩) w:=by
 rw [m4] at hm
 refine f_read hL (Tryz.call160 _) Tryz.func160 Tryz.ntmps160 fun M X w => (t_starts ?_)
 refine t_m [] [0,1] [0,1] [vI eR,vL aa l_] (fun _ _ H hd => o_alloc [vU 0,vN,vI 0,vU 0,vU 0,vU 0,vU 0] (z:=vG [vU 0,vN,vI 0,vU 0,vU 0,vU 0,vU 0]) hd (by kernel_rfl) rfl) fun b1 => ?_
 refine t_b 2 [0,1,4] [vI eR,vL aa l_,vP b1] [] (t_end (t_seq ?_))
 obtain ⟨x6,hx6,hm⟩:=letE hm
 refine t_r [0,1,4,15] [vI eR,vL aa l_,vP b1,vB x6] [] ?_ (he:=by subst hx6; kernel_rfl)
 refine t_i2 hm (fun hm => ?_)
 refine t_skip (t_seq ?_)
 refine t_r [0,1,4,19] [vI eR,vL aa l_,vP b1,vB ((ln l_) != 1)] [] ?_
 refine t_i2 hm (fun hm => ?_)
 refine t_skip ?_
 obtain ⟨z11,hz,hm_z11⟩:=bindE hm
 intro _ _ H10 hS
 refine w_cut (fun a' w' => ∃ s_z11 : Unit,z11 = Sum.inr s_z11 ∧ Fr 40 [(4,[],vP b1)] a' ∧ SH M X w [eB b1 [vU 0,vN,vI 0,vU 0,vU 0,vU 0,vU 0],eI a6 l_ aa,gE4] w') ?_ ?_
 ·replace hm:=hz
  refine t_in H10 hS (t_starts ?_)
  obtain ⟨ho12,hm⟩:=chkE hm
  refine t_b 3 [0,4,23] [vI eR,vP b1,.agg ⟨e0 (gi l_ (0 : Int)) (aa.s ((0 : Int)).toNat)⟩] [ki 1 ho12,⟨some (.agg ⟨e0 (gi l_ (0 : Int)) (aa.s ((0 : Int)).toNat)⟩),fun wz => V.atN (ab aa.a) (ao aa.a + ((0 : Int)).toNat * 6) (e0 (gi l_ (0 : Int)) (aa.s ((0 : Int)).toNat)) 0 wz,fun _ hS => ((hS.im 1 rfl).atA ho12 0 rfl)⟩] ?_
  intro _ _ H14 hS
  replace hS:=hS.addIm (dX ((hS.im 1 rfl).el ho12))
  obtain ⟨y16,hy16,hm⟩:=bindE hm
  refine t_in H14 hS ?_
  refine t_c [0] [0,1,2,3] [0,4] [vI eR,vP b1] (qz (d9:=(aa.s ((0 : Int)).toNat 0)) m _ _ hy16) fun g17 => ?_
  refine t_b 6 [0,4,24,25,26] [vI eR,vP b1,vL g17 y16,vI (ln y16),vI 0] [] (t_end (t_sel [0,2,3,4] (t_block ?_)))
  intro _ _ H22 hS
  refine w_loop (fun kk a' w' => ∃ (v23 : Int),gO m eR y16 kk v23 = some _ ∧ Fr 40 (fS [0,4,24,25,26] [vI eR,vP b1,vL g17 y16,vI (ln y16),vI v23]) a' ∧ SH M X w [eO 244 nf y16 g17,eB b1 [vU 0,vN,vI 0,vU 0,vU 0,vU 0,vU 0],eI a6 l_ aa,gE4] w') ⟨_,0,hm,FrG.keep (ks:=[0,4,24,25,26]) H22 (by kernel_rfl),hS⟩ ?_
  clear hm H22 hS
  rintro kk _ _ ⟨v23,hm,H,hS⟩
  cases kk with
  | zero => exact noneE hm
  | succ kk =>
   rw [gO] at hm
   refine t_in H hS ?_
   refine t_r [0,4,24,25,26,27] [vI eR,vP b1,vL g17 y16,vI (ln y16),vI v23,vB (decide (v23 < (ln y16)))] [] (t_seq ?_)
   refine t_im hm (fun hm => ?_) (fun hm => ?c48)
   case c48 =>
    refine t_exit ?_
    obtain rfl:=someE hm
    refine t_sel [1,2,3] ?_
    exact fun _ _ H25 hS => ⟨_,rfl,FrG.keep (ks:=[4]) H25 (by kernel_rfl),hS⟩
   refine t_skip (t_seq (t_block (t_starts ?_)))
   obtain ⟨ho26,hm⟩:=chkE hm
   refine t_b 2 [0,4,24,25,26,29] [vI eR,vP b1,vL g17 y16,vI (ln y16),vI v23,.agg ⟨e20 (gi y16 v23)⟩] [kI 0 ho26,⟨some (.agg ⟨e20 (gi y16 v23)⟩),fun wz => V.atN (ab g17.a) (ao g17.a + (v23).toNat * 7) (e20 (gi y16 v23)) 0 wz,fun _ hS => ((hS.osl 0 rfl).atA ho26 0 rfl)⟩] ?_
   refine t_m [] [0,1,2,3] [0,4,24,25,26,29] [vI eR,vP b1,vL g17 y16,vI (ln y16),vI v23,.agg ⟨e20 (gi y16 v23)⟩] (fun _ _ H28 hd => o_alloc [vU 0,vN,vI 0,vU 0,vU 0,vU 0,vU 0] (z:=vG [vU 0,vN,vI 0,vU 0,vU 0,vU 0,vU 0]) hd (by kernel_rfl) rfl) fun b29 => ?_
   refine t_m0 [0] [1,2,3,4] [0,4,7,24,25,26] [vI eR,vP b1,vP b29,vL g17 y16,vI (ln y16),vI v23] (fun _ _ H31 hd => o_store (e20 (gi y16 v23)) H31 hd rfl rfl (by kernel_rfl) rfl rfl rfl) (t_end ?_)
   obtain ⟨y34,hy34,hm⟩:=bindE hm
   refine t_r [0,4,7,8,24,25,26] [vI eR,vP b1,vP b29,vB y34.1,vL g17 y16,vI (ln y16),vI v23] [kE 0 7,kr fun _ hS => uJ 64 _ _ _ hy34 _ (s0im s0nil (hS.im 4 rfl))] ?_
   refine t_r [0,4,7,24,25,26,36] [vI eR,vP b1,vP b29,vL g17 y16,vI (ln y16),vI v23,vB y34.1] [] ?_
   refine t_im hm (fun hm => ?_) (fun hm => ?c47)
   case c47 =>
    refine t_skip ?_
    refine t_w [0,4,24,25,26] [vI eR,vP b1,vL g17 y16,vI (ln y16),vI (w64 (v23 + 1))] [] (t_sel [1,2,3,4] ?_)
    exact fun _ _ H46 hS => ⟨_,Nat.lt_succ_self _,w64 (v23 + 1),hm,FrG.keep (ks:=[0,4,24,25,26]) H46 (by kernel_rfl),hS⟩
   refine t_starts ?_
   refine t_b 1 [4,37] [vP b1,.agg ⟨e20 (gi y16 v23)⟩] [kE 0 7] ?_
   refine t_m0 [2] [0,1,3,4] [4] [vP b1] (fun _ _ H40 hd => o_store (e20 (gi y16 v23)) H40 hd rfl rfl (by kernel_rfl) rfl rfl rfl) ?_
   refine t_b 3 [4,5] [vP b1,vI 0] [] (t_end (t_sel [0,2,3,4] (t_ret ?_)))
   obtain rfl:=someE hm
   have hm:=hm_z11
   obtain rfl:=someE hm
   exact t_n [] (rsav 0 Tryz.underlying244)
 ·rintro _ _ ⟨s_z11,hz,H,hS⟩
  subst hz
  replace hm:=sumR hm_z11
  replace hS:=hS.sel [0,2] rfl
  refine t_in H hS (t_starts ?_)
  refine t_b 1 [4,39] [vP b1,vG [vU 0,vN,vI 0,vU 0,vU 0,vU 0,vU 0]] [] ?_
  refine t_m0 [0] [1] [4] [vP b1] (fun _ _ H51 hd => o_store [vU 0,vN,vI 0,vU 0,vU 0,vU 0,vU 0] H51 hd rfl rfl (by kernel_rfl) rfl rfl rfl) ?_
  refine t_b 3 [4,5] [vP b1,vI 12] [] (t_end (t_ret ?_))
  obtain rfl:=someE hm
  exact t_n [] (rsav 0 Tryz.underlying244)

def mD (m : Nat) (aL : Str) (l_ : List ae) : Option (Bool) :=
  Option.bind (nK 64 aL) fun y3 =>
  cond (y3.2 != 0) (
  none) (
  Option.bind (m4 m y3.1 l_) fun y8 =>
  some (y8.2 == 0))
theorem nX {aa : Gh} (m : Nat) (aL : Str) (l_ : List ae) (r : Bool) (hm : mD m aL l_ = some r) (w : World) (hL : S0 F0 [eI a6 l_ aa,gE4] w ∧ fpl [eI a6 l_ aa,gE4] = []) : RetB Tryz.prog 101 ⟨[vS aL,vL aa l_]⟩ (vB r) w:=by
 rw [mD] at hm
 refine f_read hL (Tryz.call101 _) Tryz.func101 Tryz.ntmps101 fun M X w => ?_
 refine t_r [0,1] [vS aL,vL aa l_] [] ?_
 obtain ⟨y3,hy3,hm⟩:=bindE hm
 refine t_r [1,5,6] [vL aa l_,vI y3.1,vI y3.2] [kr fun _ hS => p8 64 _ _ hy3 _ (s0im s0nil (hS.im 1 rfl))] (t_seq ?_)
 refine t_r [1,5,13] [vL aa l_,vI y3.1,vB (y3.2 != 0)] [] ?_
 refine t_i2 hm (fun hm => ?_)
 refine t_skip ?_
 obtain ⟨y8,hy8,hm⟩:=bindE hm
 refine t_r [6] [vI y8.2] [kr fun _ hS => qp (aa:=aa) m _ _ _ hy8 _ (s0im (s0im s0nil (hS.im 1 rfl)) (hS.im 0 rfl))] (t_sel [1] ?_)
 refine t_r [4] [vB (y8.2 == 0)] [] (t_ret ?_)
 obtain rfl:=someE hm
 exact t_n [] rs1

def gv (x_ : Int) (y_ : Int) : Int × Int :=
  lt (wu64 ((ibit .and .u64 x_ 4294967295) * (ibit .and .u64 y_ 4294967295))) fun x11 =>
  lt (wu64 ((Int.fdiv x_ (2 ^ 32)) * (ibit .and .u64 y_ 4294967295))) fun x14 =>
  lt (ibit .and .u64 (wu64 (x14 + (Int.fdiv x11 (2 ^ 32)))) 4294967295) fun x17 =>
  lt (Int.fdiv (wu64 (x14 + (Int.fdiv x11 (2 ^ 32)))) (2 ^ 32)) fun x20 =>
  lt (wu64 ((ibit .and .u64 x_ 4294967295) * (Int.fdiv y_ (2 ^ 32)))) fun x23 =>
  lt (wu64 ((Int.fdiv x_ (2 ^ 32)) * (Int.fdiv y_ (2 ^ 32)))) fun x26 =>
  lt (wu64 ((wu64 (x26 + x20)) + (Int.fdiv (wu64 (x17 + x23)) (2 ^ 32)))) fun x27 =>
  (x27,wu64 (x_ * y_))
theorem pN  (x_ : Int) (y_ : Int) : Ret Tryz.prog 220 ⟨[.int .u64 x_,.int .u64 y_]⟩ (vW [.int .u64 (gv x_ y_).1,.int .u64 (gv x_ y_).2]):=by
 generalize hm : gv x_ y_ = r
 rw [gv] at hm
 refine f_pure (Tryz.call220 _) Tryz.func220 Tryz.ntmps220 fun M X w => ?_
 refine t_r [0,1] [.int .u64 x_,.int .u64 y_] [] ?_
 refine t_r [0,1,6] [.int .u64 x_,.int .u64 y_,.int .u64 (ibit .and .u64 x_ 4294967295)] [] ?_
 refine t_r [0,1,6,7] [.int .u64 x_,.int .u64 y_,.int .u64 (ibit .and .u64 x_ 4294967295),.int .u64 (Int.fdiv x_ (2 ^ 32))] [⟨none,fun _ => (0 : Int) ≤ 32,fun _ _ => (by show (0 : Int) ≤ 32; decide)⟩] ?_
 refine t_r [0,1,6,7,8] [.int .u64 x_,.int .u64 y_,.int .u64 (ibit .and .u64 x_ 4294967295),.int .u64 (Int.fdiv x_ (2 ^ 32)),.int .u64 (ibit .and .u64 y_ 4294967295)] [] ?_
 refine t_r [0,1,6,7,8,9] [.int .u64 x_,.int .u64 y_,.int .u64 (ibit .and .u64 x_ 4294967295),.int .u64 (Int.fdiv x_ (2 ^ 32)),.int .u64 (ibit .and .u64 y_ 4294967295),.int .u64 (Int.fdiv y_ (2 ^ 32))] [⟨none,fun _ => (0 : Int) ≤ 32,fun _ _ => (by show (0 : Int) ≤ 32; decide)⟩] ?_
 obtain ⟨x11,hx11,hm⟩:=letE hm
 refine t_r [0,1,6,7,8,9,10] [.int .u64 x_,.int .u64 y_,.int .u64 (ibit .and .u64 x_ 4294967295),.int .u64 (Int.fdiv x_ (2 ^ 32)),.int .u64 (ibit .and .u64 y_ 4294967295),.int .u64 (Int.fdiv y_ (2 ^ 32)),.int .u64 x11] [] ?_ (he:=by subst hx11; kernel_rfl)
 obtain ⟨x14,hx14,hm⟩:=letE hm
 refine t_r [0,1,6,7,9,11] [.int .u64 x_,.int .u64 y_,.int .u64 (ibit .and .u64 x_ 4294967295),.int .u64 (Int.fdiv x_ (2 ^ 32)),.int .u64 (Int.fdiv y_ (2 ^ 32)),.int .u64 (wu64 (x14 + (Int.fdiv x11 (2 ^ 32))))] [⟨none,fun _ => (0 : Int) ≤ 32,fun _ _ => (by show (0 : Int) ≤ 32; decide)⟩] ?_ (he:=by subst hx14; kernel_rfl)
 obtain ⟨x17,hx17,hm⟩:=letE hm
 refine t_r [0,1,6,7,9,11,12] [.int .u64 x_,.int .u64 y_,.int .u64 (ibit .and .u64 x_ 4294967295),.int .u64 (Int.fdiv x_ (2 ^ 32)),.int .u64 (Int.fdiv y_ (2 ^ 32)),.int .u64 (wu64 (x14 + (Int.fdiv x11 (2 ^ 32)))),.int .u64 x17] [] ?_ (he:=by subst hx17; kernel_rfl)
 obtain ⟨x20,hx20,hm⟩:=letE hm
 refine t_r [0,1,6,7,9,12,13] [.int .u64 x_,.int .u64 y_,.int .u64 (ibit .and .u64 x_ 4294967295),.int .u64 (Int.fdiv x_ (2 ^ 32)),.int .u64 (Int.fdiv y_ (2 ^ 32)),.int .u64 x17,.int .u64 x20] [⟨none,fun _ => (0 : Int) ≤ 32,fun _ _ => (by show (0 : Int) ≤ 32; decide)⟩] ?_ (he:=by subst hx20; kernel_rfl)
 obtain ⟨x23,hx23,hm⟩:=letE hm
 refine t_r [0,1,7,9,12,13] [.int .u64 x_,.int .u64 y_,.int .u64 (Int.fdiv x_ (2 ^ 32)),.int .u64 (Int.fdiv y_ (2 ^ 32)),.int .u64 (wu64 (x17 + x23)),.int .u64 x20] [] ?_ (he:=by subst hx23; kernel_rfl)
 obtain ⟨x26,hx26,hm⟩:=letE hm
 obtain ⟨x27,hx27,hm⟩:=letE hm
 refine t_r [0,1,4] [.int .u64 x_,.int .u64 y_,.int .u64 x27] [⟨none,fun _ => (0 : Int) ≤ 32,fun _ _ => (by show (0 : Int) ≤ 32; decide)⟩] ?_ (he:=by subst hx26 hx27; kernel_rfl)
 refine t_r [4,5] [.int .u64 x27,.int .u64 (wu64 (x_ * y_))] [] (t_ret ?_)
 subst hm
 exact t_n [] rs2

def iB (x_ : Int) (y_ : Int) : Int × Int :=
  lt (gv x_ y_) fun y3 =>
  (y3.1,y3.2)
theorem rq  (x_ : Int) (y_ : Int) : Ret Tryz.prog 161 ⟨[.int .u64 x_,.int .u64 y_]⟩ (vW [.int .u64 (iB x_ y_).1,.int .u64 (iB x_ y_).2]):=by
 generalize hm : iB x_ y_ = r
 rw [iB] at hm
 refine f_pure (Tryz.call161 _) Tryz.func161 Tryz.ntmps161 fun M X w => ?_
 refine t_r [0,1] [.int .u64 x_,.int .u64 y_] [] (t_seq ?_)
 intro _ _ H2 hS
 refine w_if H2 rfl (fun hc => by cases hc) (fun _ => ?_)
 refine t_in H2 hS (t_skip ?_)
 obtain ⟨y3,hy3,hm⟩:=letE hm
 refine t_r [8,9] [.int .u64 y3.1,.int .u64 y3.2] [⟨some (vW [.int .u64 y3.1,.int .u64 y3.2]),rB 220 [.int .u64 x_,.int .u64 y_] (vW [.int .u64 y3.1,.int .u64 y3.2]),fun _ _ => ((by rw [hy3]; exact (pN x_ y_).b))⟩] ?_ (he:=by subst hy3; kernel_rfl)
 refine t_r [4,5] [.int .u64 y3.1,.int .u64 y3.2] [] (t_ret ?_)
 subst hm
 exact t_n [] rs2

def dN (m : Nat) (q26 : List (List ae)) : Nat → Int → Option (Unit)
  | 0,_ => none
  | kk + 1,v31 =>
    cond (decide (v31 < (ln q26))) (
    none) (
    some ())
def en (m : Nat) (x_ : List (List ae)) (count : Int) : Option (List (List ae)) :=
  cond (decide (count < 0)) (
  none) (
  lt (iB (wu64 (ln x_)) (wu64 count)) fun y5 =>
  lt (cond (decide (0 < y5.1)) true (decide (9223372036854775807 < y5.2))) fun x8 =>
  cond x8 (
  none) (
  chk (0 ≤ (w64 y5.2) ∧ (w64 y5.2) ≤ (w64 y5.2) ∧ (w64 y5.2) ≤ 137438953472) <|
  lt (List.replicate ((w64 y5.2)).toNat ([] : List ae)) fun q14 =>
  lt (cpn q14 (0 : Int) x_) fun x27 =>
  lt (cpl q14 (0 : Int) x_) fun q26 =>
  Option.bind (
  dN m q26 m x27) fun (z30 : Unit) =>
  some q26))
theorem iy {dG : Gh} (m : Nat) (x_ : List (List ae)) (count : Int) (r : List (List ae)) (hm : en m x_ count = some r) : DoesM Tryz.prog 102 ⟨[.slice dG.a x_.length dG.c,vI count]⟩ [eI (Ty.sl a6) x_ dG] (fun (aA : Gh) => .slice aA.a r.length aA.c) (fun aA => [eO 34 (Ty.sl a6) r aA]):=by
 rw [en] at hm
 refine f_mem (Tryz.call102 _) Tryz.func102 Tryz.ntmps102 fun M X w => ?_
 refine t_r [0,1] [.slice dG.a x_.length dG.c,vI count] [] (t_seq ?_)
 refine t_r [0,1,10] [.slice dG.a x_.length dG.c,vI count,vB (decide (count < 0))] [] ?_
 refine t_i2 hm (fun hm => ?_)
 refine t_skip ?_
 obtain ⟨y5,hy5,hm⟩:=letE hm
 refine t_r [0,5,6] [.slice dG.a x_.length dG.c,.int .u64 y5.1,.int .u64 y5.2] [⟨some (vW [.int .u64 y5.1,.int .u64 y5.2]),rB 161 [.int .u64 (wu64 (ln x_)),.int .u64 (wu64 count)] (vW [.int .u64 y5.1,.int .u64 y5.2]),fun _ _ => ((by rw [hy5]; exact (rq (wu64 (ln x_)) (wu64 count)).b))⟩] ?_ (he:=by subst hy5; kernel_rfl)
 refine t_seq ?_
 obtain ⟨x8,hx8,hm⟩:=letE hm
 refine t_r [0,6,26] [.slice dG.a x_.length dG.c,.int .u64 y5.2,vB x8] [] ?_ (he:=by subst hx8; kernel_rfl)
 refine t_i2 hm (fun hm => ?_)
 refine t_skip (t_starts ?_)
 refine t_b 2 [0,29] [.slice dG.a x_.length dG.c,vI (w64 y5.2)] [] ?_
 obtain ⟨ho13,hm⟩:=chkE hm
 obtain ⟨q14,hq14,hm⟩:=letE hm
 refine t_m [] [0] [0] [.slice dG.a x_.length dG.c] (fun _ _ H12 hd => o_make (T:=(Ty.sl a6)) (E:=34) (zv:=vO) ([] : List ae) H12 hd rfl rfl (by kernel_rfl) (by kernel_rfl) rfl rfl (fun _ _ => SlG.nil) ho13) fun g17 => ?_
 rw [← hq14]
 refine t_b 4 [0,7] [.slice dG.a x_.length dG.c,.slice g17.a q14.length g17.c] [] (t_end (t_starts ?_))
 refine t_b 2 [7,31,32] [.slice g17.a q14.length g17.c,.slice g17.a q14.length g17.c,.slice dG.a x_.length dG.c] [] ?_
 intro _ _ H22 hS
 have hd:=hS.hand [0,1] [1] rfl rfl
 refine m_stp [33,7] [(7,[],.slice g17.a q14.length g17.c)] H22 rfl rfl rfl rfl (o_copy (T:=(Ty.sl a6)) (E:=34) (g:=g17) (gx:=dG) (q:=q14) (xs:=x_) (0 : Int) H22 hd (hd.im 1 rfl).f0 (fun k h => (hd.im 1 rfl).2 k h) rfl (sva0 _ _ _) rfl rfl rfl rfl (by kernel_rfl) (by kernel_rfl) rfl ⟨by decide,by unfold ln; omega⟩ rfl) (fun _ => rfl) fun _ _ v H24 hq => ?_
 obtain ⟨hv_,s25,hq⟩:=hq
 obtain ⟨x27,hx27,hm⟩:=letE hm
 obtain ⟨q26,hq26,hm⟩:=letE hm
 rw [← hx27] at hv_
 subst hv_
 rw [← hq26] at hq
 have hn : q14.length = q26.length:=by rw [hq26,cpl_len]
 first | (unfold vL at H24; rw [hn] at H24) | rw [hn] at H24 | skip
 first | (unfold vL at hS; rw [hn] at hS) | rw [hn] at hS | skip
 clear hn
 replace hS:=hS.join [0,1] [1] rfl rfl hq
 refine t_in H24 hS ?_
 refine t_b 4 [7,8] [.slice (Gh.mk g17.a g17.c s25).a q26.length (Gh.mk g17.a g17.c s25).c,vI x27] [] (t_end (t_sel [0] ?_))
 obtain ⟨z30,hz,hm⟩:=bindE hm
 refine t_cut [7] [.slice (Gh.mk g17.a g17.c s25).a q26.length (Gh.mk g17.a g17.c s25).c] [eO 34 (Ty.sl a6) q26 (Gh.mk g17.a g17.c s25)] ?_ ?_
 ·replace hm:=hz
  refine t_block ?_
  intro _ _ H29 hS
  refine w_loop (fun kk a' w' => ∃ (v31 : Int),dN m q26 kk v31 = some _ ∧ Fr 48 (fS [7,8] [.slice (Gh.mk g17.a g17.c s25).a q26.length (Gh.mk g17.a g17.c s25).c,vI v31]) a' ∧ SH M X w [eO 34 (Ty.sl a6) q26 (Gh.mk g17.a g17.c s25)] w') ⟨_,x27,hm,FrG.keep (ks:=[7,8]) H29 (by kernel_rfl),hS⟩ ?_
  clear hm H29 hS
  rintro kk _ _ ⟨v31,hm,H,hS⟩
  cases kk with
  | zero => exact noneE hm
  | succ kk =>
   rw [dN] at hm
   refine t_in H hS (t_seq ?_)
   refine t_r [7,8,37] [.slice (Gh.mk g17.a g17.c s25).a q26.length (Gh.mk g17.a g17.c s25).c,vI v31,vB (decide (v31 < (ln q26)))] [] ?_
   refine t_im hm (fun hm => ?_) (fun hm => ?c34)
   case c34 =>
    refine t_exit ?_
    obtain rfl:=someE hm
    exact t_e [7]
   refine t_skip (t_block ?_)
   intro _ _ H33 hS
   exact noneE hm
 ·refine t_r [4] [.slice (Gh.mk g17.a g17.c s25).a q26.length (Gh.mk g17.a g17.c s25).c] [] (t_ret ?_)
  obtain rfl:=someE hm
  exact t_g (Gh.mk g17.a g17.c s25) [0] rs1

def jD (m : Nat) (l_ : List ae) : Nat → (List (List ae)) → Int → Option (List (List ae))
  | 0,_,_ => none
  | kk + 1,v15,v17 =>
    cond (decide (v17 < (ln l_))) (
    Option.bind (
    chk (0 ≤ v17 ∧ v17 < ln l_) <|
    cond (((gi l_ v17).ax.aj) == 13) (
    some v15) (
    chk ((decide (0 < v17)) = true → 0 ≤ (w64 (v17 - 1)) ∧ (w64 (v17 - 1)) < ln l_) <|
    lt (cond (decide (0 < v17)) (((gi l_ (w64 (v17 - 1))).ax.aj) != 13) false) fun x34 =>
    cond x34 (
    none) (
    chk (0 ≤ v17 ∧ v17 ≤ (w64 (v17 + 1)) ∧ (w64 (v17 + 1)) ≤ ln l_) <|
    lt (subl l_ v17 (w64 (v17 + 1))) fun q40 =>
    chk (ln v15 + ln ([q40] : List (List ae)) ≤ 137438953472) <|
    lt (v15 ++ ([q40] : List (List ae))) fun q50 =>
    some q50))) fun (z20 : List (List ae)) =>
    jD m l_ kk z20 (w64 (v17 + 1))) (
    some v15)
def j5 (m : Nat) (q76 : List Int) : Nat → (List (List ae)) → Int → Option (List (List ae))
  | 0,_,_ => none
  | kk + 1,v83,v85 =>
    cond (decide (v85 < (ln q76))) (
    chk (0 ≤ v85 ∧ v85 < ln q76) <|
    chk (0 ≤ (gi q76 v85) ∧ (gi q76 v85) < ln v83) <|
    chk (ln v83 + ln ([(gi v83 (gi q76 v85))] : List (List ae)) ≤ 137438953472) <|
    lt (v83 ++ ([(gi v83 (gi q76 v85))] : List (List ae))) fun q100 =>
    j5 m q76 kk q100 (w64 (v85 + 1))) (
    some v83)
def ov (m : Nat) (l_ : List ae) : Option (List (List ae)) :=
  chk (((ln l_) == 0) = false → 0 ≤ (0 : Int) ∧ (0 : Int) < ln l_) <|
  lt (cond ((ln l_) == 0) true (((gi l_ (0 : Int)).ax.aj) == 13)) fun x4 =>
  chk (x4 = false → 0 ≤ (w64 ((ln l_) - 1)) ∧ (w64 ((ln l_) - 1)) < ln l_) <|
  lt (cond x4 true (((gi l_ (w64 ((ln l_) - 1))).ax.aj) == 13)) fun x6 =>
  cond x6 (
  none) (
  Option.bind (
  jD m l_ m ([] : List (List ae)) 0) fun (z11 : List (List ae)) =>
  cond (decide (4 < (ln z11))) (
  none) (
  Option.bind (
  chk (0 ≤ (w64 ((ln z11) - 1)) ∧ (w64 ((ln z11) - 1)) ≤ (ln kL3) ∧ (ln kL3) ≤ ln kL3) <|
  lt (subl kL3 (w64 ((ln z11) - 1)) (ln kL3)) fun q76 =>
  j5 m q76 m z11 0) fun (z68 : List (List ae)) =>
  some z68))
theorem sD {aa : Gh} (m : Nat) (l_ : List ae) (r : List (List ae)) (hm : ov m l_ = some r) : DoesM Tryz.prog 162 ⟨[vL aa l_]⟩ [eI a6 l_ aa] (fun (aA : Gh) => vL aA r) (fun aA => [eO 34 (Ty.sl a6) r aA]):=by
 rw [ov] at hm
 refine f_mem (Tryz.call162 _) Tryz.func162 Tryz.ntmps162 fun M X w => ?_
 refine t_r [0] [vL aa l_] [] (t_seq ?_)
 obtain ⟨ho3,hm⟩:=chkE hm
 obtain ⟨x4,hx4,hm⟩:=letE hm
 obtain ⟨ho5,hm⟩:=chkE hm
 obtain ⟨x6,hx6,hm⟩:=letE hm
 refine t_r [0,29] [vL aa l_,vB x6] [kgi (((ln l_) == 0) = false ∧ True) 0 fun hg => (ho3 hg.1),kgj (((ln l_) == 0) = false ∧ True) 0 0 fun hg => (ho3 hg.1),kgi (x4 = false ∧ True) 0 fun hg => (ho5 hg.1),kgj (x4 = false ∧ True) 0 0 fun hg => (ho5 hg.1)] ?_ (he:=by subst hx4 hx6; kernel_rfl)
 refine t_i2 hm (fun hm => ?_)
 refine t_skip ?_
 refine t_r [0,3] [vL aa l_,vO] [] ?_
 obtain ⟨z11,hz,hm⟩:=bindE hm
 refine t_cutg [3] (fun (g64 : Gh) => [vL g64 z11]) (fun g64 => [eO 34 (Ty.sl a6) z11 g64,eI a6 l_ aa]) ?_ ?_
 ·replace hm:=hz
  refine t_r [0,3,30,31,32] [vL aa l_,vO,vL aa l_,vI (ln l_),vI 0] [] (t_block ?_)
  refine t_nil 34 (Ty.sl a6) ?_
  intro _ _ H13 hS
  refine w_loop (fun kk a' w' => ∃ (v15 : List (List ae)) (v17 : Int) (g16 : Gh),jD m l_ kk v15 v17 = some _ ∧ Fr 84 (fS [0,30,31,3,32] [vL aa l_,vL aa l_,vI (ln l_),vL g16 v15,vI v17]) a' ∧ SH M X w [eO 34 (Ty.sl a6) v15 g16,eI a6 l_ aa] w') ⟨_,([] : List (List ae)),0,Gh.nil,hm,FrG.keep (ks:=[0,30,31,3,32]) H13 (by kernel_rfl),hS⟩ ?_
  clear hm H13 hS
  rintro kk _ _ ⟨v15,v17,g16,hm,H,hS⟩
  cases kk with
  | zero => exact noneE hm
  | succ kk =>
   rw [jD] at hm
   refine t_in H hS ?_
   refine t_r [0,3,30,31,32,33] [vL aa l_,vL g16 v15,vL aa l_,vI (ln l_),vI v17,vB (decide (v17 < (ln l_)))] [] (t_seq ?_)
   refine t_im hm (fun hm => ?_) (fun hm => ?c62)
   case c62 =>
    refine t_exit ?_
    obtain rfl:=someE hm
    exact t_eg g16 [3]
   refine t_skip ?_
   obtain ⟨z20,hz,hm⟩:=bindE hm
   refine t_cutg [0,30,31,32,3] (fun (g58 : Gh) => [vL aa l_,vL aa l_,vI (ln l_),vI v17,vL g58 z20]) (fun g58 => [eO 34 (Ty.sl a6) z20 g58,eI a6 l_ aa]) ?_ ?_
   ·replace hm:=hz
    refine t_block (t_starts ?_)
    obtain ⟨ho21,hm⟩:=chkE hm
    refine t_b 3 [0,3,30,31,32,34,36] [vL aa l_,vL g16 v15,vL aa l_,vI (ln l_),vI v17,vI v17,.agg ⟨e0 (gi l_ v17) (aa.s (v17).toNat)⟩] [ki 1 ho21,⟨some (.agg ⟨e0 (gi l_ v17) (aa.s (v17).toNat)⟩),fun wz => V.atN (ab aa.a) (ao aa.a + (v17).toNat * 6) (e0 (gi l_ v17) (aa.s (v17).toNat)) 0 wz,fun _ hS => ((hS.im 1 rfl).atA ho21 0 rfl)⟩] ?_
    refine t_m [] [0,1] [0,3,30,31,32,34,36] [vL aa l_,vL g16 v15,vL aa l_,vI (ln l_),vI v17,vI v17,.agg ⟨e0 (gi l_ v17) (aa.s (v17).toNat)⟩] (fun _ _ H23 hd => o_alloc [vU 0,vN,vI 0,vN,vF,vO] (z:=vG [vU 0,vN,vI 0,vN,vF,vO]) hd (by kernel_rfl) rfl) fun b24 => ?_
    refine t_b 5 [0,3,4,5,30,31,32,36] [vL aa l_,vL g16 v15,vI v17,vP b24,vL aa l_,vI (ln l_),vI v17,.agg ⟨e0 (gi l_ v17) (aa.s (v17).toNat)⟩] [] ?_
    refine t_m0 [0] [1,2] [0,3,4,5,30,31,32] [vL aa l_,vL g16 v15,vI v17,vP b24,vL aa l_,vI (ln l_),vI v17] (fun _ _ H28 hd => o_store (e0 (gi l_ v17) (aa.s (v17).toNat)) H28 hd rfl rfl (by kernel_rfl) rfl rfl rfl) (t_end (t_seq ?_))
    refine t_r [0,3,4,30,31,32,40] [vL aa l_,vL g16 v15,vI v17,vL aa l_,vI (ln l_),vI v17,vB (((gi l_ v17).ax.aj) == 13)] [kb 0 0] (t_sel [1,2] ?_)
    refine t_im hm (fun hm => ?c57) (fun hm => ?_)
    case c57 =>
     refine t_exit ?_
     obtain rfl:=someE hm
     exact t_eg g16 [0,30,31,32,3]
    refine t_skip (t_seq ?_)
    obtain ⟨ho33,hm⟩:=chkE hm
    obtain ⟨x34,hx34,hm⟩:=letE hm
    refine t_r [0,3,4,30,31,32,52] [vL aa l_,vL g16 v15,vI v17,vL aa l_,vI (ln l_),vI v17,vB x34] [kgi ((decide (0 < v17)) = true ∧ True) 1 fun hg => (ho33 hg.1),kgj ((decide (0 < v17)) = true ∧ True) 1 0 fun hg => (ho33 hg.1)] ?_ (he:=by subst hx34; kernel_rfl)
    refine t_i2 hm (fun hm => ?_)
    refine t_skip (t_start ?_)
    refine t_b 5 [0,30,31,32,53,54,55,57] [vL aa l_,vL aa l_,vI (ln l_),vI v17,vL g16 v15,vL aa l_,vI v17,vI (w64 (v17 + 1))] [] ?_
    obtain ⟨ho39,hm⟩:=chkE hm
    obtain ⟨q40,hq40,hm⟩:=letE hm
    refine t_m [1] [0,1] [0,30,31,32,53] [vL aa l_,vL aa l_,vI (ln l_),vI v17,vL g16 v15] (fun _ _ H38 hd => o_sub (T:=a6) (E:=137) (g:=aa) (q:=l_) v17 (w64 (v17 + 1)) (.some (vI v17)) (.some (vI (w64 (v17 + 1)))) H38 hd (hd.im 0 rfl) rfl rfl rfl rfl rfl rfl (.inr ⟨_,rfl⟩) (.inr ⟨_,rfl⟩) (by kernel_rfl) (by kernel_rfl) ho39) fun g43 => ?_
    rw [← hq40]
    refine t_m [0] [0,1,2,3] [0,30,31,32,53] [vL aa l_,vL aa l_,vI (ln l_),vI v17,vL g16 v15] (fun _ _ H42 hd => o_li (T:=(Ty.sl a6)) (E:=34) (zv:=vO) [vL g43 q40] ([q40] : List (List ae)) [gL [g43]] H42 hd rfl (InnL.cons (hd.im 0 rfl) InnL.nil)) fun g45 => ?_
    obtain ⟨ho49,hm⟩:=chkE hm
    obtain ⟨q50,hq50,hm⟩:=letE hm
    refine t_m [3,0] [1,2,4] [0,30,31,32] [vL aa l_,vL aa l_,vI (ln l_),vI v17] (fun _ _ H48 hd => o_app2 (T:=(Ty.sl a6)) (zv:=vO) (g1:=g16) (g2:=g45) (l1:=v15) (l2:=([q40] : List (List ae))) q50 hq50.symm H48 hd rfl rfl rfl rfl rfl rfl rfl (by kernel_rfl) (by kernel_rfl) rfl rfl ho49) fun g53 => ?_
    refine t_b 9 [0,3,30,31,32] [vL aa l_,vL g53 q50,vL aa l_,vI (ln l_),vI v17] [] (t_end (t_sel [0,3] ?_))
    obtain rfl:=someE hm
    exact t_eg g53 [0,30,31,32,3]
   ·intro g58
    refine t_w [0,3,30,31,32] [vL aa l_,vL g58 z20,vL aa l_,vI (ln l_),vI (w64 (v17 + 1))] [] ?_
    exact fun _ _ H60 hS => ⟨_,Nat.lt_succ_self _,z20,w64 (v17 + 1),g58,hm,FrG.keep (ks:=[0,30,31,3,32]) H60 (by kernel_rfl),hS⟩
 ·intro g64
  refine t_sel [0] (t_seq ?_)
  refine t_r [3,64] [vL g64 z11,vB (decide (4 < (ln z11)))] [] ?_
  refine t_i2 hm (fun hm => ?_)
  refine t_skip ?_
  obtain ⟨z68,hz,hm⟩:=bindE hm
  refine t_cutg [3] (fun (tO : Gh) => [vL tO z68]) (fun tO => [eO 34 (Ty.sl a6) z68 tO]) ?_ ?_
  ·replace hm:=hz
   refine t_starts ?_
   refine t_m [] [0] [3] [vL g64 z11] (fun _ _ H67 hd => o_li (T:=(tI .i64)) (E:=3) (zv:=vI 0) [vI 0,vI 0,vI 1] kL3 [gL [],gL [],gL []] H67 hd rfl (InnL.cons trivial (InnL.cons trivial (InnL.cons trivial InnL.nil)))) fun g69 => ?_
   refine t_b 4 [3,65,68] [vL g64 z11,vK g69 3,vI (w64 ((ln z11) - 1))] [] ?_
   refine t_frz [0,1] ?_
   obtain ⟨ho75,hm⟩:=chkE hm
   obtain ⟨q76,hq76,hm⟩:=letE hm
   refine t_m [0] [0,1] [3] [vL g64 z11] (fun _ _ H74 hd => o_sub (T:=(tI .i64)) (E:=3) (g:=g69) (q:=kL3) (w64 ((ln z11) - 1)) (ln kL3) (.some (vI (w64 ((ln z11) - 1)))) .none H74 hd (hd.im 0 rfl) rfl rfl rfl rfl rfl rfl (.inr ⟨_,rfl⟩) (.inl ⟨rfl,rfl⟩) (by kernel_rfl) (by kernel_rfl) ho75) fun g79 => ?_
   rw [← hq76]
   refine t_b 7 [3,69,70,71] [vL g64 z11,vL g79 q76,vI (ln q76),vI 0] [] (t_end (t_sel [0,3] (t_block ?_)))
   intro _ _ H82 hS
   refine w_loop (fun kk a' w' => ∃ (v83 : List (List ae)) (v85 : Int) (g84 : Gh),j5 m q76 kk v83 v85 = some _ ∧ Fr 84 (fS [69,70,3,71] [vL g79 q76,vI (ln q76),vL g84 v83,vI v85]) a' ∧ SH M X w [eI (tI .i64) q76 g79,eO 34 (Ty.sl a6) v83 g84] w') ⟨_,z11,0,g64,hm,FrG.keep (ks:=[69,70,3,71]) H82 (by kernel_rfl),hS⟩ ?_
   clear hm H82 hS
   rintro kk _ _ ⟨v83,v85,g84,hm,H,hS⟩
   cases kk with
   | zero => exact noneE hm
   | succ kk =>
    rw [j5] at hm
    refine t_in H hS ?_
    refine t_r [3,69,70,71,72] [vL g84 v83,vL g79 q76,vI (ln q76),vI v85,vB (decide (v85 < (ln q76)))] [] (t_seq ?_)
    refine t_im hm (fun hm => ?_) (fun hm => ?c108)
    case c108 =>
     refine t_exit ?_
     obtain rfl:=someE hm
     refine t_sel [1] ?_
     exact t_eg g84 [3]
    refine t_skip (t_seq (t_block ?_))
    obtain ⟨ho88,hm⟩:=chkE hm
    refine t_r [3,7,69,70,71] [vL g84 v83,vI (gi q76 v85),vL g79 q76,vI (ln q76),vI v85] [ki 0 ho88,kj 0 0 ho88] (t_start ?_)
    obtain ⟨ho91,hm⟩:=chkE hm
    refine t_b 5 [69,70,71,75,79] [vL g79 q76,vI (ln q76),vI v85,vL g84 v83,.slice (g84.s ((gi q76 v85)).toNat 0).a ((gi v83 (gi q76 v85)).length) (g84.s ((gi q76 v85)).toNat 0).c] [kI 1 ho91,kJ 1 0 ho91] ?_
    intro _ _ H93 hS
    replace hS:=hS.addIm (sl_inn ((hS.ow 1 rfl).el ho91))
    refine t_in H93 hS ?_
    refine t_m [0] [0,1,2] [69,70,71,75] [vL g79 q76,vI (ln q76),vI v85,vL g84 v83] (fun _ _ H93 hd => o_li (T:=(Ty.sl a6)) (E:=34) (zv:=vO) [.slice (g84.s ((gi q76 v85)).toNat 0).a ((gi v83 (gi q76 v85)).length) (g84.s ((gi q76 v85)).toNat 0).c] ([(gi v83 (gi q76 v85))] : List (List ae)) [gL [(g84.s ((gi q76 v85)).toNat 0)]] H93 hd rfl (InnL.cons (hd.im 0 rfl) InnL.nil)) fun g94 => ?_
    obtain ⟨ho99,hm⟩:=chkE hm
    obtain ⟨q100,hq100,hm⟩:=letE hm
    refine t_m [3,0] [1,2] [69,70,71] [vL g79 q76,vI (ln q76),vI v85] (fun _ _ H98 hd => o_app2 (T:=(Ty.sl a6)) (zv:=vO) (g1:=g84) (g2:=g94) (l1:=v83) (l2:=([(gi v83 (gi q76 v85))] : List (List ae))) q100 hq100.symm H98 hd rfl rfl rfl rfl rfl rfl rfl (by kernel_rfl) (by kernel_rfl) rfl rfl ho99) fun rK => ?_
    refine t_b 8 [3,69,70,71] [vL rK q100,vL g79 q76,vI (ln q76),vI v85] [] (t_end (t_sel [0,3] ?_))
    refine t_w [3,69,70,71] [vL rK q100,vL g79 q76,vI (ln q76),vI (w64 (v85 + 1))] [] (t_sel [1,0] ?_)
    exact fun _ _ H107 hS => ⟨_,Nat.lt_succ_self _,q100,w64 (v85 + 1),rK,hm,FrG.keep (ks:=[69,70,3,71]) H107 (by kernel_rfl),hS⟩
  ·intro tO
   refine t_r [2] [vL tO z68] [] (t_ret ?_)
   obtain rfl:=someE hm
   exact t_g tO [0] rs1

def m3 (m : Nat) (z11 : List (List ae)) (y28 : List Str) : Nat → Int → Option (Sum (List (List ae)) (Unit))
  | 0,_ => none
  | kk + 1,v40 =>
    cond (decide (v40 < (ln y28))) (
    chk (0 ≤ v40 ∧ v40 < ln y28) <|
    chk (0 ≤ v40 ∧ v40 < ln z11) <|
    Option.bind (mD m (gi y28 v40) (gi z11 v40)) fun y47 =>
    cond (!y47) (
    some (.inl ([] : List (List ae)))) (
    none)) (
    some (.inr ()))
def oB (m : Nat) (whole : Str) (l_ : List ae) : Option (List (List ae)) :=
  Option.bind (
  cond (whole == [109,97,114,103,105,110]) (
  Option.bind (ov m l_) fun y16 =>
  some y16) (
  some ([l_] : List (List ae)))) fun (z11 : List (List ae)) =>
  Option.bind (oF 64 whole) fun y28 =>
  cond ((ln z11) != (ln y28)) (
  none) (
  Option.bind (
  m3 m z11 y28 m 0) fun (z37 : Sum (List (List ae)) (Unit)) => sumK z37 fun s_z37 =>
  none)
theorem su {aa : Gh} (m : Nat) (whole : Str) (l_ : List ae) (r : List (List ae)) (hm : oB m whole l_ = some r) : DoesM Tryz.prog 103 ⟨[vS whole,vL aa l_]⟩ [eI a6 l_ aa,gE4] (fun (aA : Gh) => vL aA r) (fun aA => [eO 34 (Ty.sl a6) r aA]):=by
 rw [oB] at hm
 refine f_mem (Tryz.call103 _) Tryz.func103 Tryz.ntmps103 fun M X w => ?_
 refine t_r [0,1] [vS whole,vL aa l_] [] (t_starts ?_)
 refine t_b 1 [0,1,9] [vS whole,vL aa l_,vL aa l_] [] ?_
 refine t_m [0] [0,1] [0,1] [vS whole,vL aa l_] (fun _ _ H4 hd => o_li (T:=(Ty.sl a6)) (E:=34) (zv:=vO) [vL aa l_] ([l_] : List (List ae)) [gL [aa]] H4 hd rfl (InnL.cons (hd.im 0 rfl) InnL.nil)) fun g5 => ?_
 refine t_b 3 [0,1,5] [vS whole,vL aa l_,vK g5 1] [] (t_end ?_)
 obtain ⟨z11,hz,hm⟩:=bindE hm
 refine t_cutg [0,5] (fun (g24 : Gh) => [vS whole,vL g24 z11]) (fun g24 => [eO 34 (Ty.sl a6) z11 g24,eI a6 l_ aa,gE4]) ?_ ?_
 ·replace hm:=hz
  refine t_r [0,1,5,12] [vS whole,vL aa l_,vK g5 1,vB (whole == [109,97,114,103,105,110])] [] ?_
  refine t_im hm (fun hm => ?_) (fun hm => ?c23)
  case c23 =>
   refine t_skip ?_
   obtain rfl:=someE hm
   exact t_eg g5 [0,5]
  refine t_start ?_
  refine t_b 1 [0,13] [vS whole,vL aa l_] [] ?_
  obtain ⟨y16,hy16,hm⟩:=bindE hm
  refine t_c [1] [0,1,2] [0] [vS whole] (sD (aa:=aa) m _ _ hy16) fun g17 => ?_
  refine t_b 3 [0,5] [vS whole,vL g17 y16] [] (t_end ?_)
  obtain rfl:=someE hm
  refine t_sel [0,2,3] ?_
  exact t_eg g17 [0,5]
 ·intro g24
  refine t_sel [0,2] (t_starts ?_)
  refine t_b 1 [5,15] [vL g24 z11,vS whole] [] ?_
  obtain ⟨y28,hy28,hm⟩:=bindE hm
  refine t_c [] [0,1] [5] [vL g24 z11] (o3 64 _ _ hy28) fun g29 => ?_
  refine t_b 3 [5,6] [vL g24 z11,vL g29 y28] [] (t_end (t_seq ?_))
  refine t_r [5,6,21] [vL g24 z11,vL g29 y28,vB ((ln z11) != (ln y28))] [] ?_
  refine t_i2 hm (fun hm => ?_)
  refine t_skip ?_
  obtain ⟨z37,hz,hm_z37⟩:=bindE hm
  intro _ _ H36 hS
  refine w_cut (fun a' w' => ∃ s_z37 : Unit,z37 = Sum.inr s_z37 ∧ Fr 38 [(5,[],vL g24 z11)] a' ∧ SH M X w [eO 9 tS y28 g29,eO 34 (Ty.sl a6) z11 g24,gE4] w') ?_ ?_
  ·replace hm:=hz
   refine t_in H36 hS ?_
   refine t_r [5,22,23,24] [vL g24 z11,vL g29 y28,vI (ln y28),vI 0] [] (t_block ?_)
   intro _ _ H39 hS
   refine w_loop (fun kk a' w' => ∃ (v40 : Int),m3 m z11 y28 kk v40 = some _ ∧ Fr 38 (fS [5,22,23,24] [vL g24 z11,vL g29 y28,vI (ln y28),vI v40]) a' ∧ SH M X w [eO 9 tS y28 g29,eO 34 (Ty.sl a6) z11 g24,gE4] w') ⟨_,0,hm,FrG.keep (ks:=[5,22,23,24]) H39 (by kernel_rfl),hS⟩ ?_
   clear hm H39 hS
   rintro kk _ _ ⟨v40,hm,H,hS⟩
   cases kk with
   | zero => exact noneE hm
   | succ kk =>
    rw [m3] at hm
    refine t_in H hS ?_
    refine t_r [5,22,23,24,25] [vL g24 z11,vL g29 y28,vI (ln y28),vI v40,vB (decide (v40 < (ln y28)))] [] (t_seq ?_)
    refine t_im hm (fun hm => ?_) (fun hm => ?c54)
    case c54 =>
     refine t_exit ?_
     obtain rfl:=someE hm
     exact fun _ _ H42 hS => ⟨_,rfl,FrG.keep (ks:=[5]) H42 (by kernel_rfl),hS⟩
    refine t_skip (t_seq (t_block ?_))
    obtain ⟨ho43,hm⟩:=chkE hm
    refine t_r [5,7,8,22,23,24] [vL g24 z11,vI v40,vS (gi y28 v40),vL g29 y28,vI (ln y28),vI v40] [kI 0 ho43,kJ 0 0 ho43] ?_
    obtain ⟨ho46,hm⟩:=chkE hm
    obtain ⟨y47,hy47,hm⟩:=bindE hm
    refine t_r [5,22,23,24,35] [vL g24 z11,vL g29 y28,vI (ln y28),vI v40,vB (!y47)] [kI 1 ho46,kJ 1 0 ho46,kr fun _ hS => nX (aa:=(g24.s (v40).toNat 0)) m _ _ _ hy47 _ (s0im (s0im s0nil (hS.im 2 rfl)) (sl_inn ((hS.osl 1 rfl).el ho46)))] ?_
    refine t_im hm (fun hm => ?_) (fun hm => ?c53)
    case c53 =>
     refine t_skip ?_
     intro _ _ H49 hS
     exact noneE hm
    refine t_r [4] [vO] [] (t_ret ?_)
    obtain rfl:=someE hm
    have hm:=hm_z37
    obtain rfl:=someE hm
    refine t_nil 34 (Ty.sl a6) ?_
    exact t_g Gh.nil [0] rs1
  ·rintro _ _ ⟨s_z37,hz,H,hS⟩
   subst hz
   replace hm:=sumR hm_z37
   replace hS:=hS.sel [1,2] rfl
   exact noneE hm

structure iA where
  bA : Str
  Value : List ae
  Whole : Str
instance : Inhabited iA:=⟨⟨default,default,default⟩⟩
def nE : Ty iA where
  z:=3
  enc:=fun x g => [vS x.bA,.slice (g 0).a x.Value.length (g 0).c,vS x.Whole]
  inn:=fun M w x g => SlG a6 M w x.Value (g 0) ∧ True
  len:=fun _ _ => rfl
  one:=fun _ _ => rfl
  kp:=fun h k hX => ⟨h.1.kp k hX,trivial⟩
  anti:=fun h hM => ⟨h.1.anti hM,trivial⟩
  fresh:=fun h => ⟨h.1.fresh,trivial⟩
theorem wK {M : Av} {w : World} {x : iA} {g : Nat → Gh} (h : nE.inn M w x g) : SlG a6 M w x.Value (g 0):=(show SlG a6 M w x.Value (g 0) ∧ True from h).1
theorem wj {M : Av} {w : World} {x : iA} {g : Nat → Gh} (h0 : SlG a6 M w x.Value (g 0)) : nE.inn M w x g:=show SlG a6 M w x.Value (g 0) ∧ True from ⟨h0,trivial⟩
def td (gf : (List ae) → Option (List ae)) : Prop:=∀ (aa : Gh) (M : Av) (l_ : List ae) (r : List ae),gf l_ = some r → ∀ w,S0 M [eI a6 l_ aa] w → Calls Tryz.prog 104 ⟨[vL aa l_]⟩ w (fun e w' => ∃ v,e = .returned v ∧ ∃ (aA : Gh),v = vL aA r ∧ SH M (fpl [eI a6 l_ aa]) w [eO 137 a6 r aA] w')
def j7 (m : Nat) (l_ : List ae) (nP : (List ae) → Option (List ae)) : Nat → (List ae) → Int → Option (List ae)
  | 0,_,_ => none
  | kk + 1,v9,v11 =>
    cond (decide (v11 < (ln l_))) (
    chk (0 ≤ v11 ∧ v11 < ln l_) <|
    Option.bind (nP ((gi l_ v11).a8)) fun y24 =>
    chk (ln v9 + ln ([(ae.mk ((gi l_ v11).ax) y24)] : List ae) ≤ 137438953472) <|
    lt (v9 ++ ([(ae.mk ((gi l_ v11).ax) y24)] : List ae)) fun q30 =>
    j7 m l_ nP kk q30 (w64 (v11 + 1))) (
    some v9)
def iz (m : Nat) : Nat → (List ae) → Option (List ae)
  | 0,_ => none
  | k + 1,l_ =>
    Option.bind (
    j7 m l_ (iz m k) m ([] : List ae) 0) fun (z5 : List ae) =>
    some z5
theorem ta (m : Nat) : ∀ (k : Nat),td (iz m  k):=by
 intro k
 induction k with
 | zero => intro aa M l_ r hm; exact noneE hm
 | succ k ih =>
  intro aa M l_ r hm w hS
  rw [iz] at hm
  have hS0 : SH M (fpl [eI a6 l_ aa]) w [eI a6 l_ aa] w:=hS
  generalize hX : fpl [eI a6 l_ aa] = X at hS0 ⊢
  clear hS hX
  have hS:=hS0
  clear hS0
  refine calls_entryP Tryz.func104 rfl Tryz.ntmps104 rfl fun _ H => ?_
  refine t_in H hS ?_
  refine t_r [0] [vL aa l_] [] ?_
  refine t_r [0,3] [vL aa l_,vO] [] ?_
  obtain ⟨z5,hz,hm⟩:=bindE hm
  refine t_cutg [3] (fun (g42 : Gh) => [vL g42 z5]) (fun g42 => [eO 137 a6 z5 g42,eI a6 l_ aa]) ?_ ?_
  ·replace hm:=hz
   refine t_r [3,6,7,8] [vO,vL aa l_,vI (ln l_),vI 0] [] (t_block ?_)
   refine t_nil 137 a6 ?_
   intro _ _ H7 hS
   refine w_loop (fun kk a' w' => ∃ (v9 : List ae) (v11 : Int) (g10 : Gh),j7 m l_ (iz m k) kk v9 v11 = some _ ∧ Fr 23 (fS [6,7,3,8] [vL aa l_,vI (ln l_),vL g10 v9,vI v11]) a' ∧ SH M X w [eO 137 a6 v9 g10,eI a6 l_ aa] w') ⟨_,([] : List ae),0,Gh.nil,hm,FrG.keep (ks:=[6,7,3,8]) H7 (by kernel_rfl),hS⟩ ?_
   clear hm H7 hS
   rintro kk _ _ ⟨v9,v11,g10,hm,H,hS⟩
   cases kk with
   | zero => exact noneE hm
   | succ kk =>
    rw [j7] at hm
    refine t_in H hS ?_
    refine t_r [3,6,7,8,9] [vL g10 v9,vL aa l_,vI (ln l_),vI v11,vB (decide (v11 < (ln l_)))] [] (t_seq ?_)
    refine t_im hm (fun hm => ?_) (fun hm => ?c40)
    case c40 =>
     refine t_exit ?_
     obtain rfl:=someE hm
     exact t_eg g10 [3]
    refine t_skip (t_seq (t_block (t_starts ?_)))
    obtain ⟨ho14,hm⟩:=chkE hm
    refine t_b 2 [3,6,7,8,11] [vL g10 v9,vL aa l_,vI (ln l_),vI v11,.agg ⟨e0 (gi l_ v11) (aa.s (v11).toNat)⟩] [ki 1 ho14,⟨some (.agg ⟨e0 (gi l_ v11) (aa.s (v11).toNat)⟩),fun wz => V.atN (ab aa.a) (ao aa.a + (v11).toNat * 6) (e0 (gi l_ v11) (aa.s (v11).toNat)) 0 wz,fun _ hS => ((hS.im 1 rfl).atA ho14 0 rfl)⟩] ?_
    refine t_m [] [0,1] [3,6,7,8,11] [vL g10 v9,vL aa l_,vI (ln l_),vI v11,.agg ⟨e0 (gi l_ v11) (aa.s (v11).toNat)⟩] (fun _ _ H16 hd => o_alloc [vU 0,vN,vI 0,vN,vF,vO] (z:=vG [vU 0,vN,vI 0,vN,vF,vO]) hd (by kernel_rfl) rfl) fun b17 => ?_
    refine t_m0 [0] [1,2] [3,5,6,7,8] [vL g10 v9,vP b17,vL aa l_,vI (ln l_),vI v11] (fun _ _ H19 hd => o_store (e0 (gi l_ v11) (aa.s (v11).toNat)) H19 hd rfl rfl (by kernel_rfl) rfl rfl rfl) (t_end ?_)
    obtain ⟨y24,hy24,hm⟩:=bindE hm
    obtain ⟨ho29,hm⟩:=chkE hm
    obtain ⟨q30,hq30,hm⟩:=letE hm
    intro _ _ H21 hS
    refine w_dS (base:=(fS [5,6,7,8] [vP b17,vL aa l_,vI (ln l_),vI v11])) (L:=[eB b17 (e0 (gi l_ v11) (aa.s (v11).toNat)),eO 137 a6 v9 g10,eI a6 l_ aa]) 10 3 (fun yg22 => [vL g10 v9,vP b17,.agg ⟨e6 ((gi l_ v11).ax)⟩,vA b17 5,.slice (aa.s (v11).toNat 0).a (((gi l_ v11).a8).length) (aa.s (v11).toNat 0).c,.slice (yg22 5 0).a y24.length (yg22 5 0).c,vG [vU ((gi l_ v11).ax.aj),vS (gi l_ v11).ax.ei,vI ((gi l_ v11).ax.Num),vS (gi l_ v11).ax.Unit,vB ((gi l_ v11).ax.l3),.slice (yg22 5 0).a y24.length (yg22 5 0).c],vK (yg22 7 0) 1,.slice (yg22 8 0).a q30.length (yg22 8 0).c,.slice (yg22 8 0).a q30.length (yg22 8 0).c]) (fun yg22 => [[],[],[],[],[],[eO 137 a6 y24 (yg22 5 0),eI a6 ((gi l_ v11).a8) (aa.s (v11).toNat 0)],[],[eO 137 a6 ([(ae.mk ((gi l_ v11).ax) y24)] : List ae) (yg22 7 0),eI a6 y24 (yg22 5 0),eI a6 ((gi l_ v11).a8) (aa.s (v11).toNat 0)],[eO 137 a6 q30 (yg22 8 0)],[]]) [[],[10,12],[10,12],[10,12],[10,12],[12],[5],[5],[7,11],[8]] [[],[],[],[],[],[],[],[5],[11],[]] [[0],[1],[1,2],[3],[3,4],[3,4,5],[1,2,3,4,5,6],[1,2,3,4,5,6,7],[0,1,2,3,4,5,6,7,8],[0,1,2,3,4,5,6,7,8,9]] [(3,9,vL g10 v9)] (FrG.keep (ks:=[5,6,7,8]) H21 (by kernel_rfl)) (fun k e h => by rcases k with _ | k <;> first | (obtain rfl:=Option.some.inj h; exact FrG.slot H21 (by kernel_rfl)) | cases h) (by kernel_rfl) hS (by kernel_rfl) rfl rfl (by kernel_rfl) (by kernel_rfl) (by kernel_rfl) (gd_none (by kernel_rfl) _ _) ?hstep_yg22 fun _ _ yg22 H33 hv hS => ?hK_yg22
    case hstep_yg22 =>
     refine ⟨?_,se0,(se (fun _ _ => [⟨some (.agg ⟨e6 ((gi l_ v11).ax)⟩),fun wz => V.atN b17 0 (e6 ((gi l_ v11).ax)) 0 wz,fun _ hS => ((hS.bk 0 rfl).atD rfl)⟩])),se0,(se (fun _ _ => [⟨some (.slice (aa.s (v11).toNat 0).a (((gi l_ v11).a8).length) (aa.s (v11).toNat 0).c),fun wz => V.at1 ⟨b17,5,none⟩ (.slice (aa.s (v11).toNat 0).a (((gi l_ v11).a8).length) (aa.s (v11).toNat 0).c) wz,fun _ hS => ((hS.bk 0 rfl).at1 rfl)⟩])),?_,se0,?_,?_,se0,trivial⟩
     ·intro o ho a w yg22 M Hb hv hO hS
      obtain rfl:=someE ho
      exact Stp.mono (o_evs [] (vL g10 v9) none [] ((Hb).add (hO 0 _ rfl (by kernel_rfl))) rfl (by kernel_rfl) (fun q e => by cases e)) fun _ _ hq => ⟨gL [],fun _ _ => hq.1,(hS.below hq.2.below).sel [] rfl⟩
     ·intro o ho a w yg22 M Hb hv hO hS0
      obtain rfl:=someE ho
      have H:=(Hb).add (hv 4 (by decide) (by decide) 16 rfl)
      have hS:=hS0
      replace hS:=hS.addIm (dX ((hS.im 0 rfl).el ho14))
      have hd:=hS.hand [0] [0,1] rfl rfl
      refine Stp.mono (o_callx H rfl rfl (⟨Tryz.call104 _,ih ((aa.s (v11).toNat 0)) _ _ _ hy24 _ hd⟩ : DoesX _ _ _ _ _)) ?_
      rintro v w2 hq
      obtain ⟨g25,rfl,hq⟩:=hq
      replace hS:=hS.join [0] [0,1] rfl rfl hq
      exact ⟨gL [g25],fun _ _ => rfl,hS.sel [0,1,2] rfl⟩
     ·intro o ho a w yg22 M Hb hv hO hS0
      obtain rfl:=someE ho
      have H:=(Hb).add (hv 6 (by decide) (by decide) 18 rfl)
      have hS:=hS0
      replace hS:=SH.frz1 (hS.sel [0,1] rfl)
      have hd:=hS.hand [0] [0,1] rfl rfl
      refine Stp.mono (o_li (T:=a6) (E:=137) (zv:=vG [vU 0,vN,vI 0,vN,vF,vO]) [vU ((gi l_ v11).ax.aj),vS (gi l_ v11).ax.ei,vI ((gi l_ v11).ax.Num),vS (gi l_ v11).ax.Unit,vB ((gi l_ v11).ax.l3),.slice (yg22 5 0).a y24.length (yg22 5 0).c] ([(ae.mk ((gi l_ v11).ax) y24)] : List ae) [gL [(yg22 5 0)]] H hd rfl (InnL.cons (nB (hd.im 0 rfl)) InnL.nil)) ?_
      rintro v w2 hq
      obtain ⟨g27,rfl,hq⟩:=hq
      replace hS:=hS.join [0] [0,1] rfl rfl hq
      exact ⟨gL [g27],fun _ _ => rfl,hS.sel [0,1,2] rfl⟩
     ·intro o ho a w yg22 M Hb hv hO hS0
      obtain rfl:=someE ho
      have H:=((Hb).add (hv 0 (by decide) (by decide) 12 rfl)).add (hv 7 (by decide) (by decide) 19 rfl)
      have hS:=hS0
      have hd:=hS.hand [3,0] [1,2] rfl rfl
      refine Stp.mono (o_app2 (T:=a6) (zv:=vG [vU 0,vN,vI 0,vN,vF,vO]) (g1:=g10) (g2:=(yg22 7 0)) (l1:=v9) (l2:=([(ae.mk ((gi l_ v11).ax) y24)] : List ae)) q30 hq30.symm H hd rfl rfl rfl rfl rfl rfl rfl (by kernel_rfl) (by kernel_rfl) rfl rfl ho29) ?_
      rintro v w2 hq
      obtain ⟨g31,rfl,hq⟩:=hq
      replace hS:=hS.join [3,0] [1,2] rfl rfl hq
      exact ⟨gL [g31],fun _ _ => rfl,hS.sel [0,1,2,3] rfl⟩
    have H34 : Fr 23 (fS [3,6,7,8] [.slice (yg22 8 0).a q30.length (yg22 8 0).c,vL aa l_,vI (ln l_),vI v11]) _:=(FrG.add (FrG.keep (ks:=[6,7,8]) H33 (by kernel_rfl)) (hv 9 3 rfl))
    replace hS : SH M X w [eO 137 a6 ([(ae.mk ((gi l_ v11).ax) y24)] : List ae) (yg22 7 0),eI a6 y24 (yg22 5 0),eI a6 ((gi l_ v11).a8) (aa.s (v11).toNat 0),eO 137 a6 q30 (yg22 8 0),eB b17 (e0 (gi l_ v11) (aa.s (v11).toNat)),eI a6 l_ aa] _:=hS
    clear hv H33
    generalize yg22 8 0 = g35 at H34 hS
    generalize yg22 7 0 = g36 at H34 hS
    generalize yg22 5 0 = g37 at H34 hS
    replace hS:=hS.sel [3,5] rfl
    refine t_in H34 hS ?_
    refine t_w [3,6,7,8] [vL g35 q30,vL aa l_,vI (ln l_),vI (w64 (v11 + 1))] [] ?_
    exact fun _ _ H39 hS => ⟨_,Nat.lt_succ_self _,q30,w64 (v11 + 1),g35,hm,FrG.keep (ks:=[6,7,3,8]) H39 (by kernel_rfl),hS⟩
  ·intro g42
   refine t_sel [0] ?_
   refine t_r [2] [vL g42 z5] [] (t_ret ?_)
   obtain rfl:=someE hm
   exact t_g g42 [0] rs1
def rC (m : Nat) (l_ : List ae) : Option (List ae):=iz m  m l_
theorem s8 {aa : Gh} (m : Nat) (l_ : List ae) (r : List ae) (hm : rC m l_ = some r) (M : Av) (w : World) (hS : S0 M [eI a6 l_ aa] w) : DoesX Tryz.prog 104 ⟨[vL aa l_]⟩ w (fun v w' => ∃ (aA : Gh),v = vL aA r ∧ SH M (fpl [eI a6 l_ aa]) w [eO 137 a6 r aA] w'):=⟨Tryz.call104 _,ta m   m aa M l_ r hm w hS⟩

def iL (m : Nat) (y13 : (List Str) × Int) (y24 : List Str) (y31 : Bool) (z36 : List (List ae)) : Nat → (List iA) → Int → Option (List iA)
  | 0,_,_ => none
  | kk + 1,v96,v98 =>
    cond (decide (v98 < (ln y13.1))) (
    chk (0 ≤ v98 ∧ v98 < ln y13.1) <|
    chk (0 ≤ v98 ∧ v98 < ln z36) <|
    Option.bind (rC m (gi z36 v98)) fun y108 =>
    cond (cond (decide (0 < (ln y24))) y31 false) (
    none) (
    chk (ln v96 + ln ([(iA.mk (gi y13.1 v98) y108 [])] : List iA) ≤ 137438953472) <|
    lt (v96 ++ ([(iA.mk (gi y13.1 v98) y108 [])] : List iA)) fun q129 =>
    iL m y13 y24 y31 z36 kk q129 (w64 (v98 + 1)))) (
    some v96)
def nG (m : Nat) (d_ : bD) : Option ((List iA) × Int) :=
  Option.bind (k8 m d_.Value) fun y6 =>
  cond (y6 != 0) (
  none) (
  Option.bind (o6 64 d_.bA) fun y13 =>
  cond (y13.2 != 0) (
  none) (
  Option.bind (oF 64 d_.bA) fun y24 =>
  Option.bind (tU m d_.Value) fun y31 =>
  Option.bind (
  Option.bind (
  Option.bind (lu d_.bA) fun y38 =>
  cond y38 (
  some y38) (
  Option.bind (pj m d_.Value) fun y41 =>
  cond (!(y41 == [])) (
  some (!(y41 == []))) (
  cond y31 (
  some y31) (
  Option.bind (cond (!(decide (0 < (ln y24)))) (mD m d_.bA d_.Value) (some default)) fun y46 =>
  lt (cond (!(decide (0 < (ln y24)))) y46 false) fun x47 =>
  some x47)))) fun (z37 : Bool) =>
  cond z37 (
  Option.bind (en m ([d_.Value] : List (List ae)) (ln y13.1)) fun y61 =>
  some y61) (
  cond (decide (0 < (ln y24))) (
  Option.bind (oB m d_.bA d_.Value) fun y72 =>
  some y72) (
  some ([] : List (List ae))))) fun (z36 : List (List ae)) =>
  cond ((ln z36) == 0) (
  some (([] : List iA),12)) (
  Option.bind (
  iL m y13 y24 y31 z36 m ([] : List iA) 0) fun (z92 : List iA) =>
  some (z92,0))))
theorem rO {bn : Gh} (m : Nat) (d_ : bD) (r : (List iA) × Int) (hm : nG m d_ = some r) : DoesM Tryz.prog 55 ⟨[.agg ⟨e11 d_ (gL [bn])⟩]⟩ [eI a6 d_.Value bn,gE4] (fun (aA : Gh) => vW [vL aA r.1,vI r.2]) (fun aA => [eO 181 nE r.1 aA]):=by
 rw [nG] at hm
 refine f_mem (Tryz.call55 _) Tryz.func55 Tryz.ntmps55 fun M X w => (t_starts ?_)
 refine t_m [] [0,1] [] [] (fun _ _ H hd => o_box (e11 d_ (gL [bn])) H hd rfl rfl) fun b1 => ?_
 refine t_b 3 [1] [vP b1] [] (t_end (t_seq ?_))
 obtain ⟨y6,hy6,hm⟩:=bindE hm
 refine t_r [1,4] [vP b1,vI y6] [kb 0 1,kr fun _ hS => kf (af:=bn) m _ _ hy6 _ (s0im s0nil (hS.im 1 rfl))] ?_
 refine t_r [1,4,18] [vP b1,vI y6,vB (y6 != 0)] [] ?_
 refine t_i2 hm (fun hm => ?_)
 refine t_skip (t_starts ?_)
 refine t_b 2 [1,22] [vP b1,vS d_.bA] [kb 0 0] ?_
 obtain ⟨y13,hy13,hm⟩:=bindE hm
 refine t_c [2] [0,1,2] [1] [vP b1] (sF 64 _ _ hy13) fun g14 => ?_
 refine t_b 8 [1,5,6] [vP b1,vL g14 y13.1,vI y13.2] [] (t_end (t_seq ?_))
 refine t_r [1,5,6,27] [vP b1,vL g14 y13.1,vI y13.2,vB (y13.2 != 0)] [] ?_
 refine t_i2 hm (fun hm => ?_)
 refine t_skip (t_starts ?_)
 refine t_b 2 [1,5,30] [vP b1,vL g14 y13.1,vS d_.bA] [kb 1 0] ?_
 obtain ⟨y24,hy24,hm⟩:=bindE hm
 refine t_c [] [0,1,2,3] [1,5] [vP b1,vL g14 y13.1] (o3 64 _ _ hy24) fun g25 => ?_
 refine t_b 6 [1,5,7] [vP b1,vL g14 y13.1,vB (decide (0 < (ln y24)))] [] (t_end (t_sel [1,2,3,4] ?_))
 obtain ⟨y31,hy31,hm⟩:=bindE hm
 refine t_r [1,5,7,8] [vP b1,vL g14 y13.1,vB (decide (0 < (ln y24))),vB y31] [kb 1 1,kr fun _ hS => uF (aa:=bn) m _ _ hy31 _ (s0im s0nil (hS.im 2 rfl))] ?_
 refine t_r [1,5,7,8,9] [vP b1,vL g14 y13.1,vB (decide (0 < (ln y24))),vB y31,vO] [] ?_
 obtain ⟨z36,hz,hm⟩:=bindE hm
 refine t_cutg [1,5,7,8,9] (fun (g83 : Gh) => [vP b1,vL g14 y13.1,vB (decide (0 < (ln y24))),vB y31,vL g83 z36]) (fun g83 => [eO 34 (Ty.sl a6) z36 g83,eO 9 tS y13.1 g14,eB b1 (e11 d_ (gL [bn])),eI a6 d_.Value bn,gE4]) ?_ ?_
 ·replace hm:=hz
  refine t_block ?_
  obtain ⟨z37,hz,hm⟩:=bindE hm
  refine t_cut [1,5,7,8,9,37] [vP b1,vL g14 y13.1,vB (decide (0 < (ln y24))),vB y31,vO,vB z37] [eO 9 tS y13.1 g14,eB b1 (e11 d_ (gL [bn])),eI a6 d_.Value bn,gE4] ?_ ?_
  ·replace hm:=hz
   obtain ⟨y38,hy38,hm⟩:=bindE hm
   refine t_r [1,5,7,8,9,37] [vP b1,vL g14 y13.1,vB (decide (0 < (ln y24))),vB y31,vO,vB y38] [kb 1 0,kc (nQ _ _ hy38)] ?_
   refine t_im hm (fun hm => ?c52) (fun hm => ?_)
   case c52 =>
    refine t_skip ?_
    obtain rfl:=someE hm
    exact t_e [1,5,7,8,9,37]
   obtain ⟨y41,hy41,hm⟩:=bindE hm
   refine t_r [1,5,7,8,9,37] [vP b1,vL g14 y13.1,vB (decide (0 < (ln y24))),vB y31,vO,vB (!(y41 == []))] [kb 1 1,kr fun _ hS => tt (aa:=bn) m _ _ hy41 _ (s0im s0nil (hS.im 2 rfl))] ?_
   refine t_im hm (fun hm => ?c51) (fun hm => ?_)
   case c51 =>
    refine t_skip ?_
    obtain rfl:=someE hm
    exact t_e [1,5,7,8,9,37]
   refine t_r [1,5,7,8,9,37] [vP b1,vL g14 y13.1,vB (decide (0 < (ln y24))),vB y31,vO,vB y31] [] ?_
   refine t_im hm (fun hm => ?c50) (fun hm => ?_)
   case c50 =>
    refine t_skip ?_
    obtain rfl:=someE hm
    exact t_e [1,5,7,8,9,37]
   obtain ⟨y46,hy46,hm⟩:=bindE hm
   obtain ⟨x47,hx47,hm⟩:=letE hm
   refine t_w [1,5,7,8,9,37] [vP b1,vL g14 y13.1,vB (decide (0 < (ln y24))),vB y31,vO,vB x47] [kgb ((!(decide (0 < (ln y24)))) = true ∧ True) 1 0,kgb ((!(decide (0 < (ln y24)))) = true ∧ True) 1 1,kgr ((!(decide (0 < (ln y24)))) = true ∧ True) fun _ hS hg => nX (aa:=bn) m _ _ _ (bT (hg.1) hy46) _ (s0im (s0im s0nil (hS.im 3 rfl)) (hS.im 2 rfl))] ?_ (he:=by subst hx47; kernel_rfl)
   obtain rfl:=someE hm
   exact t_e [1,5,7,8,9,37]
  ·refine t_if (fun hc => ?_) (fun hc => ?c81)
   case c81 =>
    replace hm:=bF hc hm
    refine t_r [1,5,7,8,9,61] [vP b1,vL g14 y13.1,vB (decide (0 < (ln y24))),vB y31,vO,vB (decide (0 < (ln y24)))] [] ?_
    refine t_im hm (fun hm => ?_) (fun hm => ?c80)
    case c80 =>
     refine t_skip ?_
     obtain rfl:=someE hm
     refine t_nil 34 (Ty.sl a6) ?_
     exact t_eg Gh.nil [1,5,7,8,9]
    refine t_start ?_
    refine t_b 4 [1,5,7,8,64,66] [vP b1,vL g14 y13.1,vB (decide (0 < (ln y24))),vB y31,vS d_.bA,vL bn d_.Value] [kb 1 0,kb 1 1] ?_
    obtain ⟨y72,hy72,hm⟩:=bindE hm
    refine t_c [2,3] [0,1,2,3] [1,5,7,8] [vP b1,vL g14 y13.1,vB (decide (0 < (ln y24))),vB y31] (su (aa:=bn) m _ _ _ hy72) fun g73 => ?_
    refine t_b 6 [1,5,7,8,9] [vP b1,vL g14 y13.1,vB (decide (0 < (ln y24))),vB y31,vL g73 y72] [] (t_end ?_)
    obtain rfl:=someE hm
    exact t_eg g73 [1,5,7,8,9]
   replace hm:=bT hc hm
   refine t_start ?_
   refine t_b 2 [1,5,7,8,56] [vP b1,vL g14 y13.1,vB (decide (0 < (ln y24))),vB y31,vL bn d_.Value] [kb 1 1] ?_
   refine t_m [2] [0,1,2,3] [1,5,7,8] [vP b1,vL g14 y13.1,vB (decide (0 < (ln y24))),vB y31] (fun _ _ H54 hd => o_li (T:=(Ty.sl a6)) (E:=34) (zv:=vO) [vL bn d_.Value] ([d_.Value] : List (List ae)) [gL [bn]] H54 hd rfl (InnL.cons (hd.im 0 rfl) InnL.nil)) fun g55 => ?_
   refine t_b 5 [1,5,7,8,57,59] [vP b1,vL g14 y13.1,vB (decide (0 < (ln y24))),vB y31,vK g55 1,vI (ln y13.1)] [] ?_
   refine t_frz [0,1,2,3,4] ?_
   obtain ⟨y61,hy61,hm⟩:=bindE hm
   refine t_c [0] [0,1,2,3,4] [1,5,7,8] [vP b1,vL g14 y13.1,vB (decide (0 < (ln y24))),vB y31] (iy (dG:=g55) m _ _ _ hy61) fun g62 => ?_
   refine t_b 7 [1,5,7,8,9] [vP b1,vL g14 y13.1,vB (decide (0 < (ln y24))),vB y31,vL g62 y61] [] (t_end (t_sel [0,2,3,4,5] ?_))
   obtain rfl:=someE hm
   exact t_eg g62 [1,5,7,8,9]
 ·intro g83
  refine t_seq ?_
  refine t_r [1,5,7,8,9,70] [vP b1,vL g14 y13.1,vB (decide (0 < (ln y24))),vB y31,vL g83 z36,vB ((ln z36) == 0)] [] ?_
  refine t_im hm (fun hm => ?c145) (fun hm => ?_)
  case c145 =>
   refine t_r [2,3] [vO,vI 12] [] (t_sel [4] (t_ret ?_))
   obtain rfl:=someE hm
   refine t_nil 181 nE ?_
   exact t_g Gh.nil [0] rs2
  refine t_skip ?_
  refine t_r [1,5,7,8,9,10] [vP b1,vL g14 y13.1,vB (decide (0 < (ln y24))),vB y31,vL g83 z36,vO] [] ?_
  obtain ⟨z92,hz,hm⟩:=bindE hm
  refine t_cutg [10] (fun (vy : Gh) => [vL vy z92]) (fun vy => [eO 181 nE z92 vy,eO 34 (Ty.sl a6) z36 g83,eO 9 tS y13.1 g14,eB b1 (e11 d_ (gL [bn])),eI a6 d_.Value bn,gE4]) ?_ ?_
  ·replace hm:=hz
   refine t_r [1,7,8,9,10,71,72,73] [vP b1,vB (decide (0 < (ln y24))),vB y31,vL g83 z36,vO,vL g14 y13.1,vI (ln y13.1),vI 0] [] (t_block ?_)
   refine t_nil 181 nE ?_
   intro _ _ H94 hS
   refine w_loop (fun kk a' w' => ∃ (v96 : List iA) (v98 : Int) (g97 : Gh),iL m y13 y24 y31 z36 kk v96 v98 = some _ ∧ Fr 98 (fS [1,7,8,9,71,72,10,73] [vP b1,vB (decide (0 < (ln y24))),vB y31,vL g83 z36,vL g14 y13.1,vI (ln y13.1),vL g97 v96,vI v98]) a' ∧ SH M X w [eO 181 nE v96 g97,eO 34 (Ty.sl a6) z36 g83,eO 9 tS y13.1 g14,eB b1 (e11 d_ (gL [bn])),eI a6 d_.Value bn,gE4] w') ⟨_,([] : List iA),0,Gh.nil,hm,FrG.keep (ks:=[1,7,8,9,71,72,10,73]) H94 (by kernel_rfl),hS⟩ ?_
   clear hm H94 hS
   rintro kk _ _ ⟨v96,v98,g97,hm,H,hS⟩
   cases kk with
   | zero => exact noneE hm
   | succ kk =>
    rw [iL] at hm
    refine t_in H hS ?_
    refine t_r [1,7,8,9,10,71,72,73,74] [vP b1,vB (decide (0 < (ln y24))),vB y31,vL g83 z36,vL g97 v96,vL g14 y13.1,vI (ln y13.1),vI v98,vB (decide (v98 < (ln y13.1)))] [] (t_seq ?_)
    refine t_im hm (fun hm => ?_) (fun hm => ?c138)
    case c138 =>
     refine t_exit ?_
     obtain rfl:=someE hm
     exact t_eg g97 [10]
    refine t_skip (t_seq (t_block ?_))
    obtain ⟨ho101,hm⟩:=chkE hm
    refine t_r [1,7,8,9,10,11,12,71,72,73] [vP b1,vB (decide (0 < (ln y24))),vB y31,vL g83 z36,vL g97 v96,vI v98,vS (gi y13.1 v98),vL g14 y13.1,vI (ln y13.1),vI v98] [kI 2 ho101,kJ 2 0 ho101] (t_starts ?_)
    obtain ⟨ho104,hm⟩:=chkE hm
    refine t_b 5 [1,7,8,9,10,71,72,73,78,82] [vP b1,vB (decide (0 < (ln y24))),vB y31,vL g83 z36,vL g97 v96,vL g14 y13.1,vI (ln y13.1),vI v98,vS (gi y13.1 v98),.slice (g83.s (v98).toNat 0).a ((gi z36 v98).length) (g83.s (v98).toNat 0).c] [kI 1 ho104,kJ 1 0 ho104] ?_
    intro _ _ H106 hS
    replace hS:=hS.addIm (sl_inn ((hS.ow 1 rfl).el ho104))
    obtain ⟨y108,hy108,hm⟩:=bindE hm
    refine t_in H106 hS ?_
    refine t_c [0] [0,1,2,3,4,5,6] [1,7,8,9,10,71,72,73,78] [vP b1,vB (decide (0 < (ln y24))),vB y31,vL g83 z36,vL g97 v96,vL g14 y13.1,vI (ln y13.1),vI v98,vS (gi y13.1 v98)] (s8 (aa:=(g83.s (v98).toNat 0)) m _ _ hy108) fun pm => ?_
    refine t_b 7 [1,7,8,9,10,71,72,73,84] [vP b1,vB (decide (0 < (ln y24))),vB y31,vL g83 z36,vL g97 v96,vL g14 y13.1,vI (ln y13.1),vI v98,vG [vS (gi y13.1 v98),vL pm y108,vN]] [] ?_
    refine t_m [] [0,1,2,3,4,5,6,7] [1,7,8,9,10,71,72,73,84] [vP b1,vB (decide (0 < (ln y24))),vB y31,vL g83 z36,vL g97 v96,vL g14 y13.1,vI (ln y13.1),vI v98,vG [vS (gi y13.1 v98),vL pm y108,vN]] (fun _ _ H114 hd => o_alloc [vN,vO,vN] (z:=vG [vN,vO,vN]) hd (by kernel_rfl) rfl) fun b115 => ?_
    refine t_m0 [0] [1,2,3,4,5,6,7,8] [1,7,8,9,10,13,71,72,73] [vP b1,vB (decide (0 < (ln y24))),vB y31,vL g83 z36,vL g97 v96,vP b115,vL g14 y13.1,vI (ln y13.1),vI v98] (fun _ _ H117 hd => o_store [vS (gi y13.1 v98),vL pm y108,vN] H117 hd rfl rfl (by kernel_rfl) rfl rfl rfl) (t_end (t_sel [0,1,3,4,5,6,7,8] (t_seq ?_)))
    refine t_r [1,7,8,9,10,13,71,72,73,88] [vP b1,vB (decide (0 < (ln y24))),vB y31,vL g83 z36,vL g97 v96,vP b115,vL g14 y13.1,vI (ln y13.1),vI v98,vB (cond (decide (0 < (ln y24))) y31 false)] [] ?_
    refine t_i2 hm (fun hm => ?_)
    refine t_skip (t_start ?_)
    refine t_b 2 [1,7,8,9,71,72,73,92,93] [vP b1,vB (decide (0 < (ln y24))),vB y31,vL g83 z36,vL g14 y13.1,vI (ln y13.1),vI v98,vL g97 v96,vG [vS (gi y13.1 v98),vL pm y108,vN]] [⟨some (vG [vS (gi y13.1 v98),vL pm y108,vN]),rN b115 0 [vS (gi y13.1 v98),vL pm y108,vN],fun _ hS => ((hS.bk 0 rfl).atD rfl)⟩] ?_
    refine t_frz [1,0,2,3,4,5,6,7] ?_
    refine t_m [0] [0,1,2,3,4,5,6,7] [1,7,8,9,71,72,73,92] [vP b1,vB (decide (0 < (ln y24))),vB y31,vL g83 z36,vL g14 y13.1,vI (ln y13.1),vI v98,vL g97 v96] (fun _ _ H123 hd => o_li (T:=nE) (E:=181) (zv:=vG [vN,vO,vN]) [vS (gi y13.1 v98),vL pm y108,vN] ([(iA.mk (gi y13.1 v98) y108 [])] : List iA) [gL [pm]] H123 hd rfl (InnL.cons (wj (hd.im 0 rfl)) InnL.nil)) fun gY => ?_
    obtain ⟨ho128,hm⟩:=chkE hm
    obtain ⟨q129,hq129,hm⟩:=letE hm
    refine t_m [3,0] [1,2,4,5,6,7,8] [1,7,8,9,71,72,73] [vP b1,vB (decide (0 < (ln y24))),vB y31,vL g83 z36,vL g14 y13.1,vI (ln y13.1),vI v98] (fun _ _ H127 hd => o_app2 (T:=nE) (zv:=vG [vN,vO,vN]) (g1:=g97) (g2:=gY) (l1:=v96) (l2:=([(iA.mk (gi y13.1 v98) y108 [])] : List iA)) q129 hq129.symm H127 hd rfl rfl rfl rfl rfl rfl rfl (by kernel_rfl) (by kernel_rfl) rfl rfl ho128) fun g132 => ?_
    refine t_b 5 [1,7,8,9,10,71,72,73] [vP b1,vB (decide (0 < (ln y24))),vB y31,vL g83 z36,vL g132 q129,vL g14 y13.1,vI (ln y13.1),vI v98] [] (t_end (t_sel [0,4,5,6,7,8] ?_))
    refine t_w [1,7,8,9,10,71,72,73] [vP b1,vB (decide (0 < (ln y24))),vB y31,vL g83 z36,vL g132 q129,vL g14 y13.1,vI (ln y13.1),vI (w64 (v98 + 1))] [] ?_
    exact fun _ _ H136 hS => ⟨_,Nat.lt_succ_self _,q129,w64 (v98 + 1),g132,hm,FrG.keep (ks:=[1,7,8,9,71,72,10,73]) H136 (by kernel_rfl),hS⟩
  ·intro vy
   refine t_sel [0,5] ?_
   refine t_r [2,3] [vL vy z92,vI 0] [] (t_ret ?_)
   obtain rfl:=someE hm
   exact t_g vy [0] rs2

def o5 (m : Nat) (d_ : bD) : Option (Bool) :=
  Option.bind (nG m d_) fun y8 =>
  some (y8.2 == 0)
theorem sI {bn : Gh} (m : Nat) (d_ : bD) (r : Bool) (hm : o5 m d_ = some r) (w : World) (hL : S0 F0 [eI a6 d_.Value bn,gE4] w ∧ fpl [eI a6 d_.Value bn,gE4] = []) : RetB Tryz.prog 39 ⟨[.agg ⟨e11 d_ (gL [bn])⟩]⟩ (vB r) w:=by
 rw [o5] at hm
 refine f_read hL (Tryz.call39 _) Tryz.func39 Tryz.ntmps39 fun M X w => (t_starts ?_)
 refine t_m [] [0,1] [] [] (fun _ _ H hd => o_box (e11 d_ (gL [bn])) H hd rfl rfl) fun b1 => ?_
 refine t_b 2 [1] [vP b1] [] (t_end (t_starts ?_))
 refine t_b 1 [6] [.agg ⟨e11 d_ (gL [bn])⟩] [kE 0 3] ?_
 obtain ⟨y8,hy8,hm⟩:=bindE hm
 refine t_c [1,2] [0,1,2] [] [] (rO (bn:=bn) m _ _ hy8) fun g9 => ?_
 refine t_b 7 [4] [vI y8.2] [] (t_end (t_sel [3] ?_))
 refine t_r [2] [vB (y8.2 == 0)] [] (t_ret ?_)
 obtain rfl:=someE hm
 exact t_n [] rs1

def pi (m : Nat) (c_ : ay) : Option (Int) :=
  Option.bind (iJ m c_) fun y6 =>
  cond (y6 != 0) (
  Option.bind (fk m c_) fun y9 =>
  some y9) (
  some 0)
theorem tK {ac : Gh} {a7 : Gh} (m : Nat) (c_ : ay) (r : Int) (hm : pi m c_ = some r) (w : World) (hL : S0 F0 [eI a6 c_.az.Value ac,eI ak c_.a8 a7] w ∧ fpl [eI a6 c_.az.Value ac,eI ak c_.a8 a7] = []) : RetB Tryz.prog 56 ⟨[.agg ⟨e4 c_ (gL [ac,a7])⟩]⟩ (vI r) w:=by
 rw [pi] at hm
 refine f_read hL (Tryz.call56 _) Tryz.func56 Tryz.ntmps56 fun M X w => (t_starts ?_)
 refine t_m [] [0,1] [] [] (fun _ _ H hd => o_box (e4 c_ (gL [ac,a7])) H hd rfl rfl) fun b1 => ?_
 refine t_b 2 [1] [vP b1] [] (t_end (t_seq ?_))
 obtain ⟨y6,hy6,hm⟩:=bindE hm
 refine t_r [1,5] [vP b1,vB (y6 != 0)] [kE 0 7,kr fun _ hS => lV (ac:=ac) (a7:=a7) m _ _ hy6 _ (s0im (s0im s0nil (hS.im 2 rfl)) (hS.im 1 rfl))] ?_
 refine t_im hm (fun hm => ?_) (fun hm => ?c14)
 case c14 =>
  refine t_skip ?_
  refine t_r [2] [vI 0] [] (t_sel [] (t_ret ?_))
  obtain rfl:=someE hm
  exact t_n [] rs1
 obtain ⟨y9,hy9,hm⟩:=bindE hm
 refine t_r [2] [vI y9] [kE 0 7,kr fun _ hS => gJ (ac:=ac) (a7:=a7) m _ _ hy9 _ (s0im (s0im s0nil (hS.im 2 rfl)) (hS.im 1 rfl))] (t_sel [] (t_ret ?_))
 obtain rfl:=someE hm
 exact t_n [] rs1

def nI (u0 : Int) (u1 : List Bool) : Option (Bool × Int) :=
  chk (0 ≤ (w64 ((w64 (u0 + 1)) - 1)) ∧ (w64 ((w64 (u0 + 1)) - 1)) < ln u1) <|
  some ((gi u1 (w64 ((w64 (u0 + 1)) - 1))),w64 (u0 + 1))
theorem rX {aW : Nat} {bO : Nat} {wx : Gh} (u0 : Int) (u1 : List Bool) (r : Bool × Int) (hm : nI u0 u1 = some r) : DoesN Tryz.prog 58 ⟨[vP aW,vP bO]⟩ [eB aW [vI u0],eB bO [vL wx u1],eI tB u1 wx] (vB r.1) [eB aW [vI r.2],eB bO [vL wx u1]]:=by
 rw [nI] at hm
 refine f_men (Tryz.call58 _) Tryz.func58 Tryz.ntmps58 fun M X w => ?_
 refine t_r [0,1] [vP aW,vP bO] [] (t_starts ?_)
 refine t_b 2 [0,1,4] [vP aW,vP bO,vI (w64 (u0 + 1))] [kb 0 0] ?_
 refine t_m0 [0] [1,2] [0,1] [vP aW,vP bO] (fun _ _ H4 hd => o_store [vI (w64 (u0 + 1))] H4 hd rfl rfl (by kernel_rfl) rfl rfl rfl) (t_end ?_)
 obtain ⟨ho7,hm⟩:=chkE hm
 refine t_r [2] [vB (gi u1 (w64 ((w64 (u0 + 1)) - 1)))] [kb 1 0,kb 0 0,ki 2 ho7,kj 2 0 ho7] (t_ret ?_)
 obtain rfl:=someE hm
 exact t_n [0,1] rs1

def uv (gf : ay → Int → Int → (List Bool) → Option (Bool × Int)) : Prop:=∀ (ac : Gh) (a7 : Gh) (bh : Nat) (bg : Nat) (ck : Gh) (M : Av) (c_ : ay) (width : Int) (eq : Int) (cG : List Bool) (r : Bool × Int),gf c_ width eq cG = some r → ∀ w,S0 M [eI a6 c_.az.Value ac,eI ak c_.a8 a7,eB bh [vI eq],eB bg [vL ck cG],eI tB cG ck] w → Calls Tryz.prog 57 ⟨[.agg ⟨e4 c_ (gL [ac,a7])⟩,vI width,.func (.func 58) ⟨[]⟩ ⟨[vP bh,vP bg]⟩]⟩ w (fun e w' => ∃ v,e = .returned v ∧ v = vB r.1 ∧ SH M (fpl [eI a6 c_.az.Value ac,eI ak c_.a8 a7,eB bh [vI eq],eB bg [vL ck cG],eI tB cG ck]) w [eB bh [vI r.2],eB bg [vL ck cG]] w')
def kC (m : Nat) (c_ : ay) (width : Int) (cG : List Bool) (o0 : ay → Int → Int → (List Bool) → Option (Bool × Int)) : Nat → Bool → Bool → Int → Int → Option (Bool × Bool × Int)
  | 0,_,_,_,_ => none
  | kk + 1,v39,v40,v41,v42 =>
    cond (decide (v41 < (ln c_.a8))) (
    chk (0 ≤ v41 ∧ v41 < ln c_.a8) <|
    Option.bind (o0 (gi c_.a8 v41) width v42 cG) fun y57 =>
    kC m c_ width cG o0 kk (cond v39 y57.1 false) (cond v40 true y57.1) (w64 (v41 + 1)) y57.2) (
    some (v39,v40,v42))
def jc (m : Nat) : Nat → ay → Int → Int → (List Bool) → Option (Bool × Int)
  | 0,_,_,_,_ => none
  | k + 1,c_,width,eq,cG =>
    cond (c_.aj == 4) (
    lt (cond (c_.bA == [97,108,108]) true (c_.bA == [115,99,114,101,101,110])) fun x10 =>
    some (x10,eq)) (
    cond (c_.aj == 5) (
    some (decide (c_.Num ≤ width),eq)) (
    cond (c_.aj == 6) (
    some (decide (width ≤ c_.Num),eq)) (
    cond (c_.aj == 7) (
    Option.bind (nI eq cG) fun y25 =>
    some (y25.1,y25.2)) (
    cond (c_.aj == 8) (
    some (false,eq)) (
    Option.bind (
    kC m c_ width cG (jc m k) m true false 0 eq) fun (z36 : Bool × Bool × Int) =>
    cond (c_.aj == 1) (
    some (z36.1,z36.2.2)) (
    cond (c_.aj == 2) (
    some (z36.2.1,z36.2.2)) (
    some (!z36.2.1,z36.2.2))))))))
theorem uS (m : Nat) : ∀ (k : Nat),uv (jc m  k):=by
 intro k
 induction k with
 | zero => intro ac a7 bh bg ck M c_ width eq cG r hm; exact noneE hm
 | succ k ih =>
  intro ac a7 bh bg ck M c_ width eq cG r hm w hS
  rw [jc] at hm
  have hS0 : SH M (fpl [eI a6 c_.az.Value ac,eI ak c_.a8 a7,eB bh [vI eq],eB bg [vL ck cG],eI tB cG ck]) w [eI a6 c_.az.Value ac,eI ak c_.a8 a7,eB bh [vI eq],eB bg [vL ck cG],eI tB cG ck] w:=hS
  generalize hX : fpl [eI a6 c_.az.Value ac,eI ak c_.a8 a7,eB bh [vI eq],eB bg [vL ck cG],eI tB cG ck] = X at hS0 ⊢
  clear hS hX
  have hS:=hS0
  clear hS0
  refine calls_entryP Tryz.func57 rfl Tryz.ntmps57 rfl fun _ H => ?_
  refine t_in H hS (t_starts ?_)
  refine t_m [] [0,1,2,3,4] [1,2] [vI width,.func (.func 58) ⟨[]⟩ ⟨[vP bh,vP bg]⟩] (fun _ _ H hd => o_box (e4 c_ (gL [ac,a7])) H hd rfl rfl) fun b1 => ?_
  refine t_b 2 [1,2,3] [vI width,.func (.func 58) ⟨[]⟩ ⟨[vP bh,vP bg]⟩,vP b1] [] (t_end (t_seq ?_))
  refine t_r [1,2,3,13] [vI width,.func (.func 58) ⟨[]⟩ ⟨[vP bh,vP bg]⟩,vP b1,vU c_.aj] [kb 0 0] (t_block ?_)
  refine t_r [1,2,3,13,14] [vI width,.func (.func 58) ⟨[]⟩ ⟨[vP bh,vP bg]⟩,vP b1,vU c_.aj,vB (c_.aj == 4)] [] ?_
  refine t_im hm (fun hm => ?c87) (fun hm => ?_)
  case c87 =>
   obtain ⟨x10,hx10,hm⟩:=letE hm
   refine t_r [6] [vB x10] [kb 0 1,kgb ((c_.bA == [97,108,108]) = false ∧ True) 0 1] ?_ (he:=by subst hx10; kernel_rfl)
   refine t_sel [3,4,5] (t_ret ?_)
   obtain rfl:=someE hm
   exact t_n [0,1] rs1
  refine t_r [1,2,3,13,24] [vI width,.func (.func 58) ⟨[]⟩ ⟨[vP bh,vP bg]⟩,vP b1,vU c_.aj,vB (c_.aj == 5)] [] ?_
  refine t_im hm (fun hm => ?c86) (fun hm => ?_)
  case c86 =>
   refine t_r [6] [vB (decide (c_.Num ≤ width))] [kb 0 2] (t_sel [3,4,5] (t_ret ?_))
   obtain rfl:=someE hm
   exact t_n [0,1] rs1
  refine t_r [1,2,3,13,30] [vI width,.func (.func 58) ⟨[]⟩ ⟨[vP bh,vP bg]⟩,vP b1,vU c_.aj,vB (c_.aj == 6)] [] ?_
  refine t_im hm (fun hm => ?c85) (fun hm => ?_)
  case c85 =>
   refine t_r [6] [vB (decide (width ≤ c_.Num))] [kb 0 2] (t_sel [3,4,5] (t_ret ?_))
   obtain rfl:=someE hm
   exact t_n [0,1] rs1
  refine t_r [1,2,3,13,36] [vI width,.func (.func 58) ⟨[]⟩ ⟨[vP bh,vP bg]⟩,vP b1,vU c_.aj,vB (c_.aj == 7)] [] ?_
  refine t_im hm (fun hm => ?c84) (fun hm => ?_)
  case c84 =>
   refine t_starts ?_
   refine t_b 1 [38] [.func (.func 58) ⟨[]⟩ ⟨[vP bh,vP bg]⟩] [] ?_
   obtain ⟨y25,hy25,hm⟩:=bindE hm
   refine t_mv [3,4,5] [0,1,2,5] [] [] (fun _ _ H24 hd => o_callx H24 rfl rfl (rX (aW:=bh) (bO:=bg) (wx:=ck) _ _ _ hy25 _ _ hd)) ?_
   refine t_b 3 [6] [vB y25.1] [] (t_end (t_sel [0,1,5] (t_ret ?_)))
   obtain rfl:=someE hm
   exact t_n [0,1] rs1
  refine t_r [1,2,3,40] [vI width,.func (.func 58) ⟨[]⟩ ⟨[vP bh,vP bg]⟩,vP b1,vB (c_.aj == 8)] [] ?_
  refine t_im hm (fun hm => ?c83) (fun hm => ?_)
  case c83 =>
   refine t_r [6] [vF] [] (t_sel [3,4,5] (t_ret ?_))
   obtain rfl:=someE hm
   exact t_n [0,1] rs1
  refine t_skip ?_
  refine t_r [1,2,3,7,8] [vI width,.func (.func 58) ⟨[]⟩ ⟨[vP bh,vP bg]⟩,vP b1,vT,vF] [] ?_
  obtain ⟨z36,hz,hm⟩:=bindE hm
  refine t_cut [3,7,8] [vP b1,vB z36.1,vB z36.2.1] [eB b1 (e4 c_ (gL [ac,a7])),eI a6 c_.az.Value ac,eI ak c_.a8 a7,eB bh [vI z36.2.2],eB bg [vL ck cG],eI tB cG ck] ?_ ?_
  ·replace hm:=hz
   refine t_r [1,2,3,7,8,43,44,45] [vI width,.func (.func 58) ⟨[]⟩ ⟨[vP bh,vP bg]⟩,vP b1,vT,vF,vL a7 c_.a8,vI (ln c_.a8),vI 0] [kb 0 6] (t_block ?_)
   intro _ _ H38 hS
   refine w_loop (fun kk a' w' => ∃ (v39 : Bool) (v40 : Bool) (v41 : Int) (v42 : Int),kC m c_ width cG (jc m k) kk v39 v40 v41 v42 = some _ ∧ Fr 72 (fS [1,2,3,43,44,7,8,45] [vI width,.func (.func 58) ⟨[]⟩ ⟨[vP bh,vP bg]⟩,vP b1,vL a7 c_.a8,vI (ln c_.a8),vB v39,vB v40,vI v41]) a' ∧ SH M X w [eB b1 (e4 c_ (gL [ac,a7])),eI a6 c_.az.Value ac,eI ak c_.a8 a7,eB bh [vI v42],eB bg [vL ck cG],eI tB cG ck] w') ⟨_,true,false,0,eq,hm,FrG.keep (ks:=[1,2,3,43,44,7,8,45]) H38 (by kernel_rfl),hS⟩ ?_
   clear hm H38 hS
   rintro kk _ _ ⟨v39,v40,v41,v42,hm,H,hS⟩
   cases kk with
   | zero => exact noneE hm
   | succ kk =>
    rw [kC] at hm
    refine t_in H hS ?_
    refine t_r [1,2,3,7,8,43,44,45,46] [vI width,.func (.func 58) ⟨[]⟩ ⟨[vP bh,vP bg]⟩,vP b1,vB v39,vB v40,vL a7 c_.a8,vI (ln c_.a8),vI v41,vB (decide (v41 < (ln c_.a8)))] [] (t_seq ?_)
    refine t_im hm (fun hm => ?_) (fun hm => ?c66)
    case c66 =>
     refine t_exit ?_
     obtain rfl:=someE hm
     exact t_e [3,7,8]
    refine t_skip (t_seq (t_block (t_starts ?_)))
    obtain ⟨ho45,hm⟩:=chkE hm
    refine t_b 2 [1,2,3,7,8,43,44,45,48] [vI width,.func (.func 58) ⟨[]⟩ ⟨[vP bh,vP bg]⟩,vP b1,vB v39,vB v40,vL a7 c_.a8,vI (ln c_.a8),vI v41,.agg ⟨e4 (gi c_.a8 v41) (a7.s (v41).toNat)⟩] [ki 2 ho45,⟨some (.agg ⟨e4 (gi c_.a8 v41) (a7.s (v41).toNat)⟩),fun wz => V.atN (ab a7.a) (ao a7.a + (v41).toNat * 7) (e4 (gi c_.a8 v41) (a7.s (v41).toNat)) 0 wz,fun _ hS => ((hS.im 2 rfl).atA ho45 0 rfl)⟩] ?_
    refine t_m [] [0,1,2,3,4,5] [1,2,3,7,8,43,44,45,48] [vI width,.func (.func 58) ⟨[]⟩ ⟨[vP bh,vP bg]⟩,vP b1,vB v39,vB v40,vL a7 c_.a8,vI (ln c_.a8),vI v41,.agg ⟨e4 (gi c_.a8 v41) (a7.s (v41).toNat)⟩] (fun _ _ H47 hd => o_alloc [vU 0,vN,vI 0,vN,vO,vF,vO] (z:=vG [vU 0,vN,vI 0,vN,vO,vF,vO]) hd (by kernel_rfl) rfl) fun b48 => ?_
    refine t_m0 [0] [1,2,3,4,5,6] [1,2,3,7,8,10,43,44,45] [vI width,.func (.func 58) ⟨[]⟩ ⟨[vP bh,vP bg]⟩,vP b1,vB v39,vB v40,vP b48,vL a7 c_.a8,vI (ln c_.a8),vI v41] (fun _ _ H50 hd => o_store (e4 (gi c_.a8 v41) (a7.s (v41).toNat)) H50 hd rfl rfl (by kernel_rfl) rfl rfl rfl) (t_end (t_starts ?_))
    refine t_b 3 [1,2,3,7,8,43,44,45,49,50,51] [vI width,.func (.func 58) ⟨[]⟩ ⟨[vP bh,vP bg]⟩,vP b1,vB v39,vB v40,vL a7 c_.a8,vI (ln c_.a8),vI v41,.agg ⟨e4 (gi c_.a8 v41) (a7.s (v41).toNat)⟩,vI width,.func (.func 58) ⟨[]⟩ ⟨[vP bh,vP bg]⟩] [kE 0 7] ?_
    intro _ _ H54 hS
    replace hS:=hS.addIm (eX ((hS.im 3 rfl).el ho45))
    replace hS:=hS.addIm (eY ((hS.im 4 rfl).el ho45))
    obtain ⟨y57,hy57,hm⟩:=bindE hm
    refine t_in H54 hS ?_
    refine t_mv [1,0,6,7,8] [0,1,2,3,4,5,8] [1,2,3,7,8,43,44,45] [vI width,.func (.func 58) ⟨[]⟩ ⟨[vP bh,vP bg]⟩,vP b1,vB v39,vB v40,vL a7 c_.a8,vI (ln c_.a8),vI v41] (fun _ _ H54 hd => o_callx H54 rfl rfl (⟨Tryz.call57 _,ih ((a7.s (v41).toNat 0)) ((a7.s (v41).toNat 1)) (bh) (bg) (ck) _ _ _ _ _ _ hy57 _ hd⟩ : DoesX _ _ _ _ _)) ?_
    refine t_b 5 [1,2,3,7,8,11,43,44,45] [vI width,.func (.func 58) ⟨[]⟩ ⟨[vP bh,vP bg]⟩,vP b1,vB v39,vB v40,vB y57.1,vL a7 c_.a8,vI (ln c_.a8),vI v41] [] (t_end (t_sel [0,1,5,6,7,8] ?_))
    refine t_w [1,2,3,7,8,43,44,45] [vI width,.func (.func 58) ⟨[]⟩ ⟨[vP bh,vP bg]⟩,vP b1,vB (cond v39 y57.1 false),vB (cond v40 true y57.1),vL a7 c_.a8,vI (ln c_.a8),vI v41] [] ?_
    refine t_w [1,2,3,7,8,43,44,45] [vI width,.func (.func 58) ⟨[]⟩ ⟨[vP bh,vP bg]⟩,vP b1,vB (cond v39 y57.1 false),vB (cond v40 true y57.1),vL a7 c_.a8,vI (ln c_.a8),vI (w64 (v41 + 1))] [] (t_sel [2,3,4,0,1,5] ?_)
    exact fun _ _ H65 hS => ⟨_,Nat.lt_succ_self _,cond v39 y57.1 false,cond v40 true y57.1,w64 (v41 + 1),y57.2,hm,FrG.keep (ks:=[1,2,3,43,44,7,8,45]) H65 (by kernel_rfl),hS⟩
  ·refine t_seq ?_
   refine t_r [7,8,63] [vB z36.1,vB z36.2.1,vU c_.aj] [kb 0 0] (t_sel [3,4,5] (t_block ?_))
   refine t_r [7,8,63,64] [vB z36.1,vB z36.2.1,vU c_.aj,vB (c_.aj == 1)] [] ?_
   refine t_im hm (fun hm => ?c81) (fun hm => ?_)
   case c81 =>
    refine t_r [6] [vB z36.1] [] (t_ret ?_)
    obtain rfl:=someE hm
    exact t_n [0,1] rs1
   refine t_r [8,67] [vB z36.2.1,vB (c_.aj == 2)] [] ?_
   refine t_im hm (fun hm => ?c80) (fun hm => ?_)
   case c80 =>
    refine t_r [6] [vB z36.2.1] [] (t_ret ?_)
    obtain rfl:=someE hm
    exact t_n [0,1] rs1
   refine t_skip ?_
   refine t_r [6] [vB (!z36.2.1)] [] (t_ret ?_)
   obtain rfl:=someE hm
   exact t_n [0,1] rs1
def sP (m : Nat) (c_ : ay) (width : Int) (eq : Int) (cG : List Bool) : Option (Bool × Int):=jc m  m c_ width eq cG
theorem tw {ac : Gh} {a7 : Gh} {bh : Nat} {bg : Nat} {ck : Gh} (m : Nat) (c_ : ay) (width : Int) (eq : Int) (cG : List Bool) (r : Bool × Int) (hm : sP m c_ width eq cG = some r) (M : Av) (w : World) (hS : S0 M [eI a6 c_.az.Value ac,eI ak c_.a8 a7,eB bh [vI eq],eB bg [vL ck cG],eI tB cG ck] w) : DoesX Tryz.prog 57 ⟨[.agg ⟨e4 c_ (gL [ac,a7])⟩,vI width,.func (.func 58) ⟨[]⟩ ⟨[vP bh,vP bg]⟩]⟩ w (fun v w' => v = vB r.1 ∧ SH M (fpl [eI a6 c_.az.Value ac,eI ak c_.a8 a7,eB bh [vI eq],eB bg [vL ck cG],eI tB cG ck]) w [eB bh [vI r.2],eB bg [vL ck cG]] w'):=⟨Tryz.call57 _,uS m   m ac a7 bh bg ck M c_ width eq cG r hm w hS⟩

def pl (m : Nat) (c_ : ay) (e_ : iu) (yes : List Bool) : Option (Bool × Int) :=
  Option.bind (pi m c_) fun y12 =>
  cond (y12 != 0) (
  none) (
  cond (decide (e_.ct < 0)) (
  none) (
  chk ((decide (1000000000 < e_.ct)) = false) <|
  Option.bind (pT m c_) fun y24 =>
  lt (cond (decide (1000000000 < e_.ct)) true ((ln yes) != (ln y24))) fun x27 =>
  cond x27 (
  none) (
  Option.bind (sP m c_ (w64 (1000 * e_.ct)) 0 yes) fun y39 =>
  some (y39.1,0))))
theorem tc {ac : Gh} {a7 : Gh} {ja : Gh} (m : Nat) (c_ : ay) (e_ : iu) (yes : List Bool) (r : Bool × Int) (hm : pl m c_ e_ yes = some r) (w : World) (hL : S0 F0 [eI a6 c_.az.Value ac,eI ak c_.a8 a7,eI tB yes ja] w ∧ fpl [eI a6 c_.az.Value ac,eI ak c_.a8 a7,eI tB yes ja] = []) : RetB Tryz.prog 40 ⟨[.agg ⟨e4 c_ (gL [ac,a7])⟩,vG [vI e_.ct],vL ja yes]⟩ (vW [vB r.1,vI r.2]) w:=by
 rw [pl] at hm
 refine f_read hL (Tryz.call40 _) Tryz.func40 Tryz.ntmps40 fun M X w => (t_starts ?_)
 refine t_m [] [0,1,2] [1,2] [vG [vI e_.ct],vL ja yes] (fun _ _ H hd => o_box (e4 c_ (gL [ac,a7])) H hd rfl rfl) fun b1 => ?_
 refine t_m [] [0,1,2,3] [2,3] [vL ja yes,vP b1] (fun _ _ H3 hd => o_box [vI e_.ct] H3 hd rfl rfl) fun b4 => ?_
 refine t_m [] [0,1,2,3,4] [3,4] [vP b1,vP b4] (fun _ _ H6 hd => o_box [vL ja yes] H6 hd rfl rfl) fun b7 => ?_
 refine t_b 5 [3,4,5] [vP b1,vP b4,vP b7] [] (t_end (t_seq ?_))
 obtain ⟨y12,hy12,hm⟩:=bindE hm
 refine t_r [3,4,5,8] [vP b1,vP b4,vP b7,vI y12] [kE 2 7,kr fun _ hS => tK (ac:=ac) (a7:=a7) m _ _ hy12 _ (s0im (s0im s0nil (hS.im 4 rfl)) (hS.im 3 rfl))] ?_
 refine t_r [3,4,5,8,13] [vP b1,vP b4,vP b7,vI y12,vB (y12 != 0)] [] ?_
 refine t_i2 hm (fun hm => ?_)
 refine t_skip (t_seq ?_)
 intro _ _ H16 hS
 generalize hz_z17 : (decide (e_.ct < 0)) = z17 at hm
 cases z17
 case false =>
  replace hm:=bF rfl hm
  obtain ⟨ho23,hm⟩:=chkE hm
  obtain ⟨y24,hy24,hm⟩:=bindE hm
  obtain ⟨x27,hx27,hm⟩:=letE hm
  refine s_dS (base:=(fS [3,4,5] [vP b1,vP b4,vP b7])) (L:=[eB b7 [vL ja yes],eB b4 [vI e_.ct],eB b1 (e4 c_ (gL [ac,a7])),eI a6 c_.az.Value ac,eI ak c_.a8 a7,eI tB yes ja]) 16 6 (fun yg22 => [vP b4,vI e_.ct,vB (decide (e_.ct < 0)),vF,vP b4,vI e_.ct,vB (decide (1000000000 < e_.ct)),vB (decide (1000000000 < e_.ct)),vB (decide (1000000000 < e_.ct)),vL ja yes,vI (ln yes),.agg ⟨e4 c_ (gL [ac,a7])⟩,.slice (yg22 12 0).a y24.length (yg22 12 0).c,vI (ln y24),vB ((ln yes) != (ln y24)),vB x27]) (fun yg22 => [[],[],[],[],[],[],[],[],[],[],[],[],[eO 36 bf y24 (yg22 12 0)],[],[],[]]) [[17],[17],[],[],[17],[17],[],[],[],[16,21],[21],[18,19,20],[19,20],[12],[],[]] [[],[],[],[],[],[],[],[],[],[],[],[],[],[],[],[]] [[0],[0,1],[0,1,2],[0,1,2,3],[0,1,2,3,4],[0,1,2,3,4,5],[0,1,2,3,4,5,6],[0,1,2,3,4,5,6,7],[0,1,2,3,4,5,6,7,8],[0,1,2,3,4,5,6,7,8,9],[0,1,2,3,4,5,6,7,8,9,10],[0,1,2,3,4,5,6,7,8,11],[0,1,2,3,4,5,6,7,8,11,12],[0,1,2,3,4,5,6,7,8,11,12,13],[0,1,2,3,4,5,6,7,8,9,10,11,12,13,14],[0,1,2,3,4,5,6,7,8,9,10,11,12,13,14,15]] [] (FrG.keep (ks:=[3,4,5]) H16 (by kernel_rfl)) (fun _ _ h => by cases h) (by kernel_rfl) hS (by kernel_rfl) rfl rfl (by kernel_rfl) (by kernel_rfl) (by kernel_rfl) ⟨trivial,trivial,trivial,trivial,⟨by kernel_rfl,fun _ => rfl⟩,⟨by kernel_rfl,fun _ => rfl⟩,⟨by kernel_rfl,fun _ => rfl⟩,trivial,trivial,⟨by kernel_rfl,fun _ => congrArg Value.bool ho23⟩,⟨by kernel_rfl,fun _ => congrArg Value.bool ho23⟩,⟨by kernel_rfl,fun _ => congrArg Value.bool ho23⟩,⟨by kernel_rfl,fun _ => congrArg Value.bool ho23⟩,⟨by kernel_rfl,fun _ => congrArg Value.bool ho23⟩,⟨by kernel_rfl,fun _ => congrArg Value.bool ho23⟩,trivial,trivial⟩ ?hstep_yg22 fun _ _ yg22 H29 hv hS => ?hK_yg22
  case hstep_yg22 =>
   refine ⟨se0,(se (fun _ _ => [⟨some (vI e_.ct),rA b4 0 (vI e_.ct),fun _ hS => ((hS.bk 0 rfl).at1 rfl)⟩])),se0,?_,se0,(se (fun _ _ => [⟨some (vI e_.ct),rA b4 0 (vI e_.ct),fun _ hS => ((hS.bk 0 rfl).at1 rfl)⟩])),se0,se0,se0,(se (fun _ _ => [⟨some (vL ja yes),rA b7 0 (vL ja yes),fun _ hS => ((hS.bk 0 rfl).at1 rfl)⟩])),se0,(se (fun _ _ => [⟨some (.agg ⟨e4 c_ (gL [ac,a7])⟩),fun wz => V.atN b1 0 (e4 c_ (gL [ac,a7])) 0 wz,fun _ hS => ((hS.bk 0 rfl).atD rfl)⟩])),?_,se0,se0,(se0 (he:=by intros; subst hx27; kernel_rfl)),trivial⟩
   ·intro o ho a w yg22 M Hb hv hO hS
    obtain rfl:=someE ho
    exact Stp.mono (o_evs [] (vB (decide (e_.ct < 0))) none [] ((Hb).add (hv 2 (by decide) (by decide) 17 rfl)) rfl (by kernel_rfl) (fun q e => by cases e)) fun _ _ hq => ⟨gL [],fun _ _ => hq.1.trans (congrArg Value.bool hz_z17),(hS.below hq.2.below).sel [] rfl⟩
   ·intro o ho a w yg22 M Hb hv hO hS0
    obtain rfl:=someE ho
    have H:=(Hb).add (hv 11 (by decide) (by decide) 26 rfl)
    have hS:=hS0
    have hd:=hS.hand [0,1] [0,1] rfl rfl
    refine Stp.mono (o_callx H rfl rfl (pe (ac:=ac) (a7:=a7) m _ _ hy24 _ _ hd)) ?_
    rintro v w2 hq
    obtain ⟨g25,rfl,hq⟩:=hq
    replace hS:=hS.join [0,1] [0,1] rfl rfl hq
    exact ⟨gL [g25],fun _ _ => rfl,hS.sel [0,1,2] rfl⟩
  have H30 : Fr 37 (fS [30,3,4,5] [vB x27,vP b1,vP b4,vP b7]) _:=(FrG.add (FrG.keep (ks:=[3,4,5]) H29 (by kernel_rfl)) (hv 15 30 rfl))
  replace hS : SH M X w [eO 36 bf y24 (yg22 12 0),eB b7 [vL ja yes],eB b4 [vI e_.ct],eB b1 (e4 c_ (gL [ac,a7])),eI a6 c_.az.Value ac,eI ak c_.a8 a7,eI tB yes ja] _:=hS
  clear hv H29
  generalize yg22 12 0 = g31 at H30 hS
  replace hS:=hS.sel [1,2,3,4,5,6] rfl
  refine t_in H30 hS ?_
  refine t_i2 hm (fun hm => ?_)
  refine t_skip (t_starts ?_)
  refine t_m [] [0,1,2,3,4,5] [3,4,5] [vP b1,vP b4,vP b7] (fun _ _ H30 hd => o_alloc [vI 0] (z:=vI 0) hd (by kernel_rfl) rfl) fun b32 => ?_
  refine t_m0 [0] [1,2,3,4,5,6] [3,4,5,9] [vP b1,vP b4,vP b7,vP b32] (fun _ _ H34 hd => o_store [vI 0] H34 hd rfl rfl (by kernel_rfl) rfl rfl rfl) (t_end (t_starts ?_))
  refine t_b 5 [31,34,35] [.agg ⟨e4 c_ (gL [ac,a7])⟩,vI (w64 (1000 * e_.ct)),.func (.func 58) ⟨[]⟩ ⟨[vP b32,vP b7]⟩] [kE 3 7,kb 2 0] ?_
  obtain ⟨y39,hy39,hm⟩:=bindE hm
  refine t_mv [4,5,0,1,6] [2,3,4,5,6] [] [] (fun _ _ H38 hd => o_callx H38 rfl rfl (tw (ac:=ac) (a7:=a7) (bh:=b32) (bg:=b7) (ck:=ja) m _ _ _ _ _ hy39 _ _ hd)) ?_
  refine t_b 8 [6,7] [vB y39.1,vI 0] [] (t_end (t_sel [] (t_ret ?_)))
  obtain rfl:=someE hm
  exact t_n [] rs2
 replace hm:=bT rfl hm
 refine s_dG (base:=(fS [3,4,5] [vP b1,vP b4,vP b7])) (L:=[eB b7 [vL ja yes],eB b4 [vI e_.ct],eB b1 (e4 c_ (gL [ac,a7])),eI a6 c_.az.Value ac,eI ak c_.a8 a7,eI tB yes ja]) 16 6 (fun yg18 => [vP b4,vI e_.ct,vB (decide (e_.ct < 0)),vT,undef,undef,undef,vT,vT,undef,undef,undef,undef,undef,undef,vT]) (fun yg18 => [[],[],[],[],[],[],[],[],[],[],[],[],[],[],[],[]]) [[17],[17],[],[],[],[],[],[],[],[],[],[],[],[],[],[]] [[],[],[],[],[],[],[],[],[],[],[],[],[],[],[],[]] [[0],[0,1],[0,1,2],[0,1,2,3],[0,1,2,3,4],[0,1,2,3,5],[0,1,2,3,6],[0,1,2,3,6,7],[0,1,2,3,6,7,8],[0,1,2,3,6,7,8,9],[0,1,2,3,6,7,8,10],[0,1,2,3,6,7,8,11],[0,1,2,3,6,7,8,12],[0,1,2,3,6,7,8,13],[0,1,2,3,6,7,8,14],[0,1,2,3,6,7,8,14,15]] [] (FrG.keep (ks:=[3,4,5]) H16 (by kernel_rfl)) (fun _ _ h => by cases h) (by kernel_rfl) hS (by kernel_rfl) rfl rfl (by kernel_rfl) (by kernel_rfl) (by kernel_rfl) ?hstep_yg18 fun _ _ yg18 H20 hv hS => ?hK_yg18
 case hstep_yg18 =>
  refine ⟨Or.inr ⟨trivial,?_⟩,Or.inr ⟨trivial,?_⟩,Or.inr ⟨trivial,?_⟩,Or.inr ⟨trivial,?_⟩,Or.inl ⟨by kernel_rfl,Or.inl fun _ => rfl,fun _ => ⟨rfl,rfl⟩,rfl⟩,Or.inl ⟨by kernel_rfl,Or.inl fun _ => rfl,fun _ => ⟨rfl,rfl⟩,rfl⟩,Or.inl ⟨by kernel_rfl,Or.inl fun _ => rfl,fun _ => ⟨rfl,rfl⟩,rfl⟩,Or.inr ⟨trivial,?_⟩,Or.inr ⟨trivial,?_⟩,Or.inl ⟨by kernel_rfl,Or.inl fun _ => rfl,fun _ => ⟨rfl,rfl⟩,rfl⟩,Or.inl ⟨by kernel_rfl,Or.inl fun _ => rfl,fun _ => ⟨rfl,rfl⟩,rfl⟩,Or.inl ⟨by kernel_rfl,Or.inl fun _ => rfl,fun _ => ⟨rfl,rfl⟩,rfl⟩,Or.inl ⟨by kernel_rfl,Or.inl fun _ => rfl,fun _ => ⟨rfl,rfl⟩,rfl⟩,Or.inl ⟨by kernel_rfl,Or.inl fun _ => rfl,fun _ => ⟨rfl,rfl⟩,rfl⟩,Or.inl ⟨by kernel_rfl,Or.inl fun _ => rfl,fun _ => ⟨rfl,rfl⟩,rfl⟩,Or.inr ⟨trivial,?_⟩,trivial⟩
  ·intro o ho a w yg18 M Hb hv hO hS
   obtain rfl:=someE ho
   exact Stp.mono (o_evs [] (vP b4) none [] Hb rfl (by kernel_rfl) (fun q e => by cases e)) fun _ _ hq => ⟨gL [],fun _ _ => hq.1,(hS.below hq.2.below).sel [0] rfl⟩
  ·intro o ho a w yg18 M Hb hv hO hS
   obtain rfl:=someE ho
   exact Stp.mono (o_evs [(vI e_.ct)] (vI e_.ct) (some (rA b4 0 (vI e_.ct))) [] ((Hb).add (hv 0 (by decide) (by decide) 15 rfl)) rfl (by kernel_rfl) (fun q e => by cases e; exact ((hS.bk 0 rfl).at1 rfl))) fun _ _ hq => ⟨gL [],fun _ _ => hq.1,(hS.below hq.2.below).sel [0] rfl⟩
  ·intro o ho a w yg18 M Hb hv hO hS
   obtain rfl:=someE ho
   exact Stp.mono (o_evs [] (vB (decide (e_.ct < 0))) none [] ((Hb).add (hv 1 (by decide) (by decide) 16 rfl)) rfl (by kernel_rfl) (fun q e => by cases e)) fun _ _ hq => ⟨gL [],fun _ _ => hq.1,(hS.below hq.2.below).sel [] rfl⟩
  ·intro o ho a w yg18 M Hb hv hO hS
   obtain rfl:=someE ho
   exact Stp.mono (o_evs [] (vB (decide (e_.ct < 0))) none [] ((Hb).add (hv 2 (by decide) (by decide) 17 rfl)) rfl (by kernel_rfl) (fun q e => by cases e)) fun _ _ hq => ⟨gL [],fun _ _ => hq.1.trans (congrArg Value.bool hz_z17),(hS.below hq.2.below).sel [] rfl⟩
  ·intro o ho a w yg18 M Hb hv hO hS
   obtain rfl:=someE ho
   exact Stp.mono (o_evs [] (vT) none [] (((Hb).add (hv 3 (by decide) (by decide) 18 rfl)).add (hv 6 (by decide) (by decide) 21 rfl)) rfl (by kernel_rfl) (fun q e => by cases e)) fun _ _ hq => ⟨gL [],fun _ _ => hq.1,(hS.below hq.2.below).sel [] rfl⟩
  ·intro o ho a w yg18 M Hb hv hO hS
   obtain rfl:=someE ho
   exact Stp.mono (o_evs [] (vT) none [] ((Hb).add (hv 7 (by decide) (by decide) 22 rfl)) rfl (by kernel_rfl) (fun q e => by cases e)) fun _ _ hq => ⟨gL [],fun _ _ => hq.1,(hS.below hq.2.below).sel [] rfl⟩
  ·intro o ho a w yg18 M Hb hv hO hS
   obtain rfl:=someE ho
   exact Stp.mono (o_evs [] (vT) none [] (((Hb).add (hv 8 (by decide) (by decide) 23 rfl)).add (hv 14 (by decide) (by decide) 29 rfl)) rfl (by kernel_rfl) (fun q e => by cases e)) fun _ _ hq => ⟨gL [],fun _ _ => hq.1,(hS.below hq.2.below).sel [] rfl⟩
 have H21 : Fr 37 (fS [30,3,4,5] [vT,vP b1,vP b4,vP b7]) _:=(FrG.add (FrG.keep (ks:=[3,4,5]) H20 (by kernel_rfl)) (hv 15 30 rfl))
 replace hS : SH M X w [eB b7 [vL ja yes],eB b4 [vI e_.ct],eB b1 (e4 c_ (gL [ac,a7])),eI a6 c_.az.Value ac,eI ak c_.a8 a7,eI tB yes ja] _:=hS
 clear hv H20
 refine w_if H21 rfl (fun _ => ?_) (fun hc => by cases hc)
 exact noneE hm

def iM (m : Nat) (y18 : (List bD) × Int) : Nat → (List Bool) → Int → Option (Sum (Bool) (List Bool))
  | 0,_,_ => none
  | kk + 1,v28,v30 =>
    cond (decide (v30 < (ln y18.1))) (
    chk (0 ≤ v30 ∧ v30 < ln y18.1) <|
    Option.bind (o5 m (gi y18.1 v30)) fun y41 =>
    chk (ln v28 + ln ([y41] : List Bool) ≤ 137438953472) <|
    lt (v28 ++ ([y41] : List Bool)) fun q49 =>
    iM m y18 kk q49 (w64 (v30 + 1))) (
    some (.inr v28))
def lA (m : Nat) (r_ : aS) (e_ : iu) : Option (Bool) :=
  Option.bind (
  cond (r_.aj == 3) (
  Option.bind (pX m r_.aB) fun y18 =>
  iM m y18 m ([] : List Bool) 0) (
  cond (r_.aj == 2) (
  some (.inr ([] : List Bool))) (
  some (.inl true)))) fun (z11 : Sum (Bool) (List Bool)) => sumK z11 fun s_z11 =>
  Option.bind (pl m r_.aB e_ s_z11) fun y68 =>
  some y68.1
theorem nS {ez : Gh} {er : Gh} {dv : Gh} {dw : Gh} {ew : Gh} {eE : Gh} (m : Nat) (r_ : aS) (e_ : iu) (r : Bool) (hm : lA m r_ e_ = some r) (w : World) (hL : S0 F0 [eI au r_.aC ez,eI bf r_.bl er,eI a6 r_.aB.az.Value dv,eI ak r_.aB.a8 dw,eI (Ty.sl tS) r_.aQ ew,eI aJ r_.aF eE,gE4] w ∧ fpl [eI au r_.aC ez,eI bf r_.bl er,eI a6 r_.aB.az.Value dv,eI ak r_.aB.a8 dw,eI (Ty.sl tS) r_.aQ ew,eI aJ r_.aF eE,gE4] = []) : RetB Tryz.prog 23 ⟨[.agg ⟨e5 r_ (gL [ez,er,dv,dw,ew,eE])⟩,vG [vI e_.ct]]⟩ (vB r) w:=by
 rw [lA] at hm
 refine f_read hL (Tryz.call23 _) Tryz.func23 Tryz.ntmps23 fun M X w => (t_starts ?_)
 refine t_m [] [0,1,2,3,4,5,6] [1] [vG [vI e_.ct]] (fun _ _ H hd => o_box (e5 r_ (gL [ez,er,dv,dw,ew,eE])) H hd rfl rfl) fun b1 => ?_
 refine t_m [] [0,1,2,3,4,5,6,7] [2] [vP b1] (fun _ _ H3 hd => o_box [vI e_.ct] H3 hd rfl rfl) fun b4 => ?_
 refine t_b 3 [2,3] [vP b1,vP b4] [] (t_end ?_)
 refine t_r [2,3,5] [vP b1,vP b4,vO] [] ?_
 obtain ⟨z11,hz,hm_z11⟩:=bindE hm
 intro _ _ H10 hS
 refine w_cut (fun a' w' => ∃ s_z11 : List Bool,z11 = Sum.inr s_z11 ∧ ∃ (g66 : Gh),Fr 45 (fS [2,3,5] [vP b1,vP b4,vL g66 s_z11]) a' ∧ SH M X w [eO 4 tB s_z11 g66,eB b4 [vI e_.ct],eB b1 (e5 r_ (gL [ez,er,dv,dw,ew,eE])),eI au r_.aC ez,eI bf r_.bl er,eI a6 r_.aB.az.Value dv,eI ak r_.aB.a8 dw,eI (Ty.sl tS) r_.aQ ew,eI aJ r_.aF eE,gE4] w') ?_ ?_
 ·replace hm:=hz
  refine t_in H10 hS ?_
  refine t_r [2,3,5,13] [vP b1,vP b4,vO,vU r_.aj] [kb 1 0] (t_block ?_)
  refine t_r [2,3,5,13,14] [vP b1,vP b4,vO,vU r_.aj,vB (r_.aj == 3)] [] ?_
  refine t_im hm (fun hm => ?_) (fun hm => ?c65)
  case c65 =>
   refine t_r [2,3,5,34] [vP b1,vP b4,vO,vB (r_.aj == 2)] [] ?_
   refine t_im hm (fun hm => ?c64) (fun hm => ?_)
   case c64 =>
    refine t_skip ?_
    obtain rfl:=someE hm
    refine t_nil 4 tB ?_
    exact fun _ _ H60 hS => ⟨_,rfl,Gh.nil,FrG.keep (ks:=[2,3,5]) H60 (by kernel_rfl),hS⟩
   refine t_r [4] [vT] [] (t_ret ?_)
   obtain rfl:=someE hm
   have hm:=hm_z11
   obtain rfl:=someE hm
   exact t_n [] rs1
  refine t_starts ?_
  refine t_b 2 [2,3,5,18] [vP b1,vP b4,vO,.agg ⟨e4 r_.aB (gL [dv,dw])⟩] [⟨some (.agg ⟨e4 r_.aB (gL [dv,dw])⟩),fun wz => V.atN b1 3 (e4 r_.aB (gL [dv,dw])) 0 wz,fun _ hS => ((hS.bk 1 rfl).atD rfl)⟩] ?_
  obtain ⟨y18,hy18,hm⟩:=bindE hm
  refine t_c [4,5] [0,1,2,3,4,5,6,7,8] [2,3,5] [vP b1,vP b4,vO] (sZ (ac:=dv) (a7:=dw) m _ _ hy18) fun g19 => ?_
  refine t_b 8 [2,3,5,6] [vP b1,vP b4,vO,vL g19 y18.1] [] (t_end ?_)
  refine t_r [2,3,5,22,23,24] [vP b1,vP b4,vO,vL g19 y18.1,vI (ln y18.1),vI 0] [] (t_block ?_)
  refine t_nil 4 tB ?_
  intro _ _ H26 hS
  refine w_loop (fun kk a' w' => ∃ (v28 : List Bool) (v30 : Int) (g29 : Gh),iM m y18 kk v28 v30 = some _ ∧ Fr 45 (fS [2,3,22,23,5,24] [vP b1,vP b4,vL g19 y18.1,vI (ln y18.1),vL g29 v28,vI v30]) a' ∧ SH M X w [eO 4 tB v28 g29,eO 36 bf y18.1 g19,eB b4 [vI e_.ct],eB b1 (e5 r_ (gL [ez,er,dv,dw,ew,eE])),eI au r_.aC ez,eI bf r_.bl er,eI a6 r_.aB.az.Value dv,eI ak r_.aB.a8 dw,eI (Ty.sl tS) r_.aQ ew,eI aJ r_.aF eE,gE4] w') ⟨_,([] : List Bool),0,Gh.nil,hm,FrG.keep (ks:=[2,3,22,23,5,24]) H26 (by kernel_rfl),hS⟩ ?_
  clear hm H26 hS
  rintro kk _ _ ⟨v28,v30,g29,hm,H,hS⟩
  cases kk with
  | zero => exact noneE hm
  | succ kk =>
   rw [iM] at hm
   refine t_in H hS ?_
   refine t_r [2,3,5,22,23,24,25] [vP b1,vP b4,vL g29 v28,vL g19 y18.1,vI (ln y18.1),vI v30,vB (decide (v30 < (ln y18.1)))] [] (t_seq ?_)
   refine t_im hm (fun hm => ?_) (fun hm => ?c57)
   case c57 =>
    refine t_exit ?_
    obtain rfl:=someE hm
    refine t_sel [0,2,3,4,5,6,7,8,9,10] ?_
    exact fun _ _ H32 hS => ⟨_,rfl,g29,FrG.keep (ks:=[2,3,5]) H32 (by kernel_rfl),hS⟩
   refine t_skip (t_seq (t_block (t_starts ?_)))
   obtain ⟨ho33,hm⟩:=chkE hm
   refine t_b 2 [2,3,5,22,23,24,27] [vP b1,vP b4,vL g29 v28,vL g19 y18.1,vI (ln y18.1),vI v30,.agg ⟨e11 (gi y18.1 v30) (g19.s (v30).toNat)⟩] [kI 1 ho33,⟨some (.agg ⟨e11 (gi y18.1 v30) (g19.s (v30).toNat)⟩),fun wz => V.atN (ab g19.a) (ao g19.a + (v30).toNat * 3) (e11 (gi y18.1 v30) (g19.s (v30).toNat)) 0 wz,fun _ hS => ((hS.osl 1 rfl).atA ho33 0 rfl)⟩] ?_
   refine t_m [] [0,1,2,3,4,5,6,7,8,9,10] [2,3,5,22,23,24,27] [vP b1,vP b4,vL g29 v28,vL g19 y18.1,vI (ln y18.1),vI v30,.agg ⟨e11 (gi y18.1 v30) (g19.s (v30).toNat)⟩] (fun _ _ H35 hd => o_alloc [vN,vO,vF] (z:=vG [vN,vO,vF]) hd (by kernel_rfl) rfl) fun b36 => ?_
   refine t_m0 [0] [1,2,3,4,5,6,7,8,9,10,11] [2,3,5,9,22,23,24] [vP b1,vP b4,vL g29 v28,vP b36,vL g19 y18.1,vI (ln y18.1),vI v30] (fun _ _ H38 hd => o_store (e11 (gi y18.1 v30) (g19.s (v30).toNat)) H38 hd rfl rfl (by kernel_rfl) rfl rfl rfl) (t_end (t_start ?_))
   obtain ⟨y41,hy41,hm⟩:=bindE hm
   refine t_b 3 [2,3,22,23,24,28,30] [vP b1,vP b4,vL g19 y18.1,vI (ln y18.1),vI v30,vL g29 v28,vB y41] [kE 0 3,kr fun _ hS => sI (bn:=(g19.s (v30).toNat 0)) m _ _ hy41 _ (s0im (s0im s0nil (hS.im 11 rfl)) (wi ((hS.osl 2 rfl).el ho33)))] ?_
   refine t_m [] [0,1,2,3,4,5,6,7,8,9,10,11] [2,3,22,23,24,28] [vP b1,vP b4,vL g19 y18.1,vI (ln y18.1),vI v30,vL g29 v28] (fun _ _ H43 hd => o_li (T:=tB) (E:=4) (zv:=vF) [vB y41] ([y41] : List Bool) [gL []] H43 hd rfl (InnL.cons trivial InnL.nil)) fun g44 => ?_
   obtain ⟨ho48,hm⟩:=chkE hm
   obtain ⟨q49,hq49,hm⟩:=letE hm
   refine t_m [2,0] [1,3,4,5,6,7,8,9,10,11,12] [2,3,22,23,24] [vP b1,vP b4,vL g19 y18.1,vI (ln y18.1),vI v30] (fun _ _ H47 hd => o_app2 (T:=tB) (zv:=vF) (g1:=g29) (g2:=g44) (l1:=v28) (l2:=([y41] : List Bool)) q49 hq49.symm H47 hd rfl rfl rfl rfl rfl rfl rfl (by kernel_rfl) (by kernel_rfl) rfl rfl ho48) fun g52 => ?_
   refine t_b 6 [2,3,5,22,23,24] [vP b1,vP b4,vL g52 q49,vL g19 y18.1,vI (ln y18.1),vI v30] [] (t_end (t_sel [0,3,4,5,6,7,8,9,10,11,12] ?_))
   refine t_w [2,3,5,22,23,24] [vP b1,vP b4,vL g52 q49,vL g19 y18.1,vI (ln y18.1),vI (w64 (v30 + 1))] [] ?_
   exact fun _ _ H56 hS => ⟨_,Nat.lt_succ_self _,q49,w64 (v30 + 1),g52,hm,FrG.keep (ks:=[2,3,22,23,5,24]) H56 (by kernel_rfl),hS⟩
 ·rintro _ _ ⟨s_z11,hz,g66,H,hS⟩
  subst hz
  replace hm:=sumR hm_z11
  obtain ⟨y68,hy68,hm⟩:=bindE hm
  refine t_in H hS ?_
  refine t_r [10] [vB y68.1] [⟨some (.agg ⟨e4 r_.aB (gL [dv,dw])⟩),fun wz => V.atN b1 3 (e4 r_.aB (gL [dv,dw])) 0 wz,fun _ hS => ((hS.bk 2 rfl).atD rfl)⟩,kE 1 1,kr fun _ hS => tc (ac:=dv) (a7:=dw) (ja:=g66) m _ _ _ _ hy68 _ (s0im (s0im (s0im s0nil (hS.osl 0 rfl)) (hS.im 6 rfl)) (hS.im 5 rfl))] (t_sel [9] ?_)
  refine t_r [4] [vB y68.1] [] (t_ret ?_)
  obtain rfl:=someE hm
  exact t_n [] rs1

def ft (s : List Str) (n_ : Int) : Option (List Str) :=
  chk (0 ≤ (0 : Int) ∧ (0 : Int) ≤ n_ ∧ n_ ≤ 137438953472) <|
  lt (List.replicate ((0 : Int)).toNat ([] : Str)) fun q4 =>
  some q4
theorem lb (n_ : Int) (r : List Str) (hm : ft [] n_ = some r) : DoesM Tryz.prog 46 ⟨[vO,vI n_]⟩ [eI tS ([] : List Str) Gh.nil] (fun (aA : Gh) => vL aA r) (fun aA => [eO 9 tS r aA]):=by
 rw [ft] at hm
 obtain ⟨ho,hm⟩:=chkE hm
 obtain rfl : ([] : List Str) = r:=someE hm
 refine f_mem (Tryz.call46 _) Tryz.func46 Tryz.ntmps46 fun M X w => (t_sel [] ?_)
 refine t_r [0,1] [vO,vI n_] [] (t_seq ?_)
 refine t_r [0,1,6] [vO,vI n_,vB (decide (n_ < 0))] [] ?_
 refine t_if (t:=decide (n_ < 0)) (fun hc => by have:=of_decide_eq_true hc; omega) (fun _ => ?_)
 refine t_skip (t_seq (t_starts ?_))
 refine t_b 2 [0,1,8,9] [vO,vI n_,vI n_,vO] [] ?_
 refine t_mv [] [] [0,1,8] [vO,vI n_,vI n_] (fun _ _ H hd => o_cap H hd rfl rfl) ?_
 refine t_b 8 [0,1] [vO,vI (w64 (n_ - w64 (0 - 0)))] [] ?_
 have hk : w64 (n_ - w64 (0 - 0)) = n_:=by rw [show w64 (0 - 0) = 0 from by decide]; simp only [w64,IntKind.wrap_i64]; omega
 rw [hk]
 refine t_end ?_
 refine t_r [0,1,16] [vO,vI n_,vB (decide (0 < n_))] [] ?_
 refine t_if (t:=decide (0 < n_)) (fun hc => ?_) (fun _ => ?_)
 · have hn:=of_decide_eq_true hc
   refine t_start ?_
   refine t_b 2 [0,1,17,18] [vO,vI n_,vO,vO] [] ?_
   refine t_mv [] [] [0,1,17] [vO,vI n_,vO] (fun _ _ H hd => o_cap H hd rfl rfl) ?_
   refine t_mv [] [] [0,1] [vO,vI n_] (fun _ _ H hd => o_sl0 (z:=1) H hd rfl rfl rfl (by kernel_rfl)) ?_
   refine t_b 5 [0,20,21] [vO,vO,vI n_] [] ?_
   refine t_m [] [] [0] [vO] (fun _ _ H hd => o_appZ (T:=tS) (zv:=vN) H hd rfl rfl rfl rfl (by kernel_rfl) (by kernel_rfl) rfl ⟨hn,ho.2.2⟩) fun g => ?_
   refine t_b 8 [22,24] [.slice g.a n_.toNat g.c,vI 0] [] ?_
   refine t_mv [0] [] [] [] (fun _ _ H hd => o_sl0 (z:=1) H hd rfl rfl rfl (by kernel_rfl)) ?_
   refine t_b 10 [0] [vK g 0] [] (t_end ?_)
   refine t_r [4] [vK g 0] [] (t_ret ?_)
   exact t_g g [0] rs1
 · refine t_skip ?_
   refine t_r [4] [vO] [] ?_
   refine t_nil 9 tS (t_ret ?_)
   exact t_g .nil [0] rs1
def dK (m : Nat) (slices : List (List Str)) : Nat → Int → Int → Option (Int)
  | 0,_,_ => none
  | kk + 1,v8,v9 =>
    cond (decide (v9 < (ln slices))) (
    chk (0 ≤ v9 ∧ v9 < ln slices) <|
    lt (decide ((w64 (v8 + (ln (gi slices v9)))) < 0)) fun x17 =>
    cond x17 (
    none) (
    dK m slices kk (w64 (v8 + (ln (gi slices v9)))) (w64 (v9 + 1)))) (
    some v8)
def dI (m : Nat) (slices : List (List Str)) : Nat → (List Str) → Int → Option (List Str)
  | 0,_,_ => none
  | kk + 1,v38,v40 =>
    cond (decide (v40 < (ln slices))) (
    chk (0 ≤ v40 ∧ v40 < ln slices) <|
    chk (ln v38 + ln (gi slices v40) ≤ 137438953472) <|
    lt (v38 ++ (gi slices v40)) fun q50 =>
    dI m slices kk q50 (w64 (v40 + 1))) (
    some v38)
def ek (m : Nat) (slices : List (List Str)) : Option (List Str) :=
  Option.bind (
  dK m slices m 0 0) fun (z5 : Int) =>
  Option.bind (ft [] z5) fun y28 =>
  Option.bind (
  dI m slices m y28 0) fun (z35 : List Str) =>
  some z35
theorem fY {bE : Gh} (m : Nat) (slices : List (List Str)) (r : List Str) (hm : ek m slices = some r) : DoesM Tryz.prog 31 ⟨[vL bE slices]⟩ [eI (Ty.sl tS) slices bE] (fun (aA : Gh) => vL aA r) (fun aA => [eO 9 tS r aA]):=by
 rw [ek] at hm
 refine f_mem (Tryz.call31 _) Tryz.func31 Tryz.ntmps31 fun M X w => ?_
 refine t_r [0] [vL bE slices] [] ?_
 refine t_r [0,3] [vL bE slices,vI 0] [] ?_
 obtain ⟨z5,hz,hm⟩:=bindE hm
 refine t_cut [0,3] [vL bE slices,vI z5] [eI (Ty.sl tS) slices bE] ?_ ?_
 ·replace hm:=hz
  refine t_r [0,3,9,10,11] [vL bE slices,vI 0,vL bE slices,vI (ln slices),vI 0] [] (t_block ?_)
  intro _ _ H7 hS
  refine w_loop (fun kk a' w' => ∃ (v8 : Int) (v9 : Int),dK m slices kk v8 v9 = some _ ∧ Fr 36 (fS [0,9,10,3,11] [vL bE slices,vL bE slices,vI (ln slices),vI v8,vI v9]) a' ∧ SH M X w [eI (Ty.sl tS) slices bE] w') ⟨_,0,0,hm,FrG.keep (ks:=[0,9,10,3,11]) H7 (by kernel_rfl),hS⟩ ?_
  clear hm H7 hS
  rintro kk _ _ ⟨v8,v9,hm,H,hS⟩
  cases kk with
  | zero => exact noneE hm
  | succ kk =>
   rw [dK] at hm
   refine t_in H hS ?_
   refine t_r [0,3,9,10,11,12] [vL bE slices,vI v8,vL bE slices,vI (ln slices),vI v9,vB (decide (v9 < (ln slices)))] [] (t_seq ?_)
   refine t_im hm (fun hm => ?_) (fun hm => ?c23)
   case c23 =>
    refine t_exit ?_
    obtain rfl:=someE hm
    exact t_e [0,3]
   refine t_skip (t_seq (t_block ?_))
   obtain ⟨ho12,hm⟩:=chkE hm
   refine t_r [0,3,5,9,10,11] [vL bE slices,vI v8,.slice (bE.s (v9).toNat 0).a ((gi slices v9).length) (bE.s (v9).toNat 0).c,vL bE slices,vI (ln slices),vI v9] [ki 0 ho12,kj 0 0 ho12] ?_
   refine t_r [0,3,9,10,11] [vL bE slices,vI (w64 (v8 + (ln (gi slices v9)))),vL bE slices,vI (ln slices),vI v9] [] ?_
   obtain ⟨x17,hx17,hm⟩:=letE hm
   refine t_r [0,3,9,10,11,20] [vL bE slices,vI (w64 (v8 + (ln (gi slices v9)))),vL bE slices,vI (ln slices),vI v9,vB x17] [] ?_ (he:=by subst hx17; kernel_rfl)
   refine t_i2 hm (fun hm => ?_)
   refine t_skip ?_
   refine t_w [0,3,9,10,11] [vL bE slices,vI (w64 (v8 + (ln (gi slices v9)))),vL bE slices,vI (ln slices),vI (w64 (v9 + 1))] [] ?_
   exact fun _ _ H21 hS => ⟨_,Nat.lt_succ_self _,w64 (v8 + (ln (gi slices v9))),w64 (v9 + 1),hm,FrG.keep (ks:=[0,9,10,3,11]) H21 (by kernel_rfl),hS⟩
 ·refine t_starts ?_
  refine t_b 1 [0,23] [vL bE slices,vI z5] [] ?_
  refine t_nil 9 tS ?_
  refine t_frz [0,1] ?_
  obtain ⟨y28,hy28,hm⟩:=bindE hm
  refine t_c [0] [0,1] [0] [vL bE slices] (lb _ _ hy28) fun g29 => ?_
  refine t_b 3 [0,6] [vL bE slices,vL g29 y28] [] (t_end (t_sel [0,2] ?_))
  obtain ⟨z35,hz,hm⟩:=bindE hm
  refine t_cutg [6] (fun (g60 : Gh) => [vL g60 z35]) (fun g60 => [eO 9 tS z35 g60,eI (Ty.sl tS) slices bE]) ?_ ?_
  ·replace hm:=hz
   refine t_r [6,25,26,27] [vL g29 y28,vL bE slices,vI (ln slices),vI 0] [] (t_block ?_)
   intro _ _ H37 hS
   refine w_loop (fun kk a' w' => ∃ (v38 : List Str) (v40 : Int) (g39 : Gh),dI m slices kk v38 v40 = some _ ∧ Fr 36 (fS [25,26,6,27] [vL bE slices,vI (ln slices),vL g39 v38,vI v40]) a' ∧ SH M X w [eO 9 tS v38 g39,eI (Ty.sl tS) slices bE] w') ⟨_,y28,0,g29,hm,FrG.keep (ks:=[25,26,6,27]) H37 (by kernel_rfl),hS⟩ ?_
   clear hm H37 hS
   rintro kk _ _ ⟨v38,v40,g39,hm,H,hS⟩
   cases kk with
   | zero => exact noneE hm
   | succ kk =>
    rw [dI] at hm
    refine t_in H hS ?_
    refine t_r [6,25,26,27,28] [vL g39 v38,vL bE slices,vI (ln slices),vI v40,vB (decide (v40 < (ln slices)))] [] (t_seq ?_)
    refine t_im hm (fun hm => ?_) (fun hm => ?c58)
    case c58 =>
     refine t_exit ?_
     obtain rfl:=someE hm
     exact t_eg g39 [6]
    refine t_skip (t_seq (t_block ?_))
    obtain ⟨ho43,hm⟩:=chkE hm
    refine t_r [6,8,25,26,27] [vL g39 v38,.slice (bE.s (v40).toNat 0).a ((gi slices v40).length) (bE.s (v40).toNat 0).c,vL bE slices,vI (ln slices),vI v40] [ki 1 ho43,kj 1 0 ho43] (t_start ?_)
    refine t_b 2 [25,26,27,31,32] [vL bE slices,vI (ln slices),vI v40,vL g39 v38,.slice (bE.s (v40).toNat 0).a ((gi slices v40).length) (bE.s (v40).toNat 0).c] [] ?_
    intro _ _ H47 hS
    replace hS:=hS.addIm (sl_inn ((hS.im 1 rfl).el ho43))
    obtain ⟨ho49,hm⟩:=chkE hm
    obtain ⟨q50,hq50,hm⟩:=letE hm
    refine t_in H47 hS ?_
    refine t_m [1,0] [0,2] [25,26,27] [vL bE slices,vI (ln slices),vI v40] (fun _ _ H47 hd => o_app (T:=tS) (zv:=vN) (g1:=g39) (g2:=(bE.s (v40).toNat 0)) (l1:=v38) (l2:=(gi slices v40)) q50 hq50.symm H47 hd rfl rfl rfl rfl rfl rfl rfl (by kernel_rfl) (by kernel_rfl) rfl rfl ho49) fun g53 => ?_
    refine t_b 4 [6,25,26,27] [vL g53 q50,vL bE slices,vI (ln slices),vI v40] [] (t_end (t_sel [0,2] ?_))
    refine t_w [6,25,26,27] [vL g53 q50,vL bE slices,vI (ln slices),vI (w64 (v40 + 1))] [] ?_
    exact fun _ _ H57 hS => ⟨_,Nat.lt_succ_self _,q50,w64 (v40 + 1),g53,hm,FrG.keep (ks:=[25,26,6,27]) H57 (by kernel_rfl),hS⟩
  ·intro g60
   refine t_sel [0] ?_
   refine t_r [2] [vL g60 z35] [] (t_ret ?_)
   obtain rfl:=someE hm
   exact t_g g60 [0] rs1

def kO (m : Nat) (ci : List Str) : Nat → Str → Int → Option (Str)
  | 0,_,_ => none
  | kk + 1,v8,v9 =>
    cond (decide (v9 < (ln ci))) (
    chk (0 ≤ v9 ∧ v9 < ln ci) <|
    Option.bind (x_Itoa (ln (gi ci v9))) fun y15 =>
    chk (ln y15 + ln [58] ≤ 9223372036854775807) <|
    chk (ln (y15 ++ [58]) + ln (gi ci v9) ≤ 9223372036854775807) <|
    chk (ln v8 + ln ((y15 ++ [58]) ++ (gi ci v9)) ≤ 9223372036854775807) <|
    kO m ci kk (v8 ++ ((y15 ++ [58]) ++ (gi ci v9))) (w64 (v9 + 1))) (
    some v8)
def lQ (m : Nat) (ci : List Str) : Option (Str) :=
  Option.bind (
  kO m ci m [] 0) fun (z5 : Str) =>
  some z5
theorem mU {bU : Gh} (m : Nat) (ci : List Str) (r : Str) (hm : lQ m ci = some r) (w : World) (hL : S0 F0 [eI tS ci bU,Ent.tab 0 (Lib.pow10Tab.map fun z => Value.int .u64 z)] w ∧ fpl [eI tS ci bU,Ent.tab 0 (Lib.pow10Tab.map fun z => Value.int .u64 z)] = []) : RetB Tryz.prog 28 ⟨[vL bU ci]⟩ (vS r) w:=by
 rw [lQ] at hm
 refine f_read hL (Tryz.call28 _) Tryz.func28 Tryz.ntmps28 fun M X w => ?_
 refine t_r [0] [vL bU ci] [] ?_
 refine t_r [0,3] [vL bU ci,vN] [] ?_
 obtain ⟨z5,hz,hm⟩:=bindE hm
 refine t_cut [3] [vS z5] [eI tS ci bU,Ent.tab 0 (Lib.pow10Tab.map fun z => Value.int .u64 z)] ?_ ?_
 ·replace hm:=hz
  refine t_r [3,6,7,8] [vN,vL bU ci,vI (ln ci),vI 0] [] (t_block ?_)
  intro _ _ H7 hS
  refine w_loop (fun kk a' w' => ∃ (v8 : Str) (v9 : Int),kO m ci kk v8 v9 = some _ ∧ Fr 22 (fS [6,7,3,8] [vL bU ci,vI (ln ci),vS v8,vI v9]) a' ∧ SH M X w [eI tS ci bU,Ent.tab 0 (Lib.pow10Tab.map fun z => Value.int .u64 z)] w') ⟨_,[],0,hm,FrG.keep (ks:=[6,7,3,8]) H7 (by kernel_rfl),hS⟩ ?_
  clear hm H7 hS
  rintro kk _ _ ⟨v8,v9,hm,H,hS⟩
  cases kk with
  | zero => exact noneE hm
  | succ kk =>
   rw [kO] at hm
   refine t_in H hS ?_
   refine t_r [3,6,7,8,9] [vS v8,vL bU ci,vI (ln ci),vI v9,vB (decide (v9 < (ln ci)))] [] (t_seq ?_)
   refine t_im hm (fun hm => ?_) (fun hm => ?c23)
   case c23 =>
    refine t_exit ?_
    obtain rfl:=someE hm
    exact t_e [3]
   refine t_skip (t_seq (t_block ?_))
   obtain ⟨ho12,hm⟩:=chkE hm
   refine t_r [3,5,6,7,8] [vS v8,vS (gi ci v9),vL bU ci,vI (ln ci),vI v9] [ki 0 ho12,kj 0 0 ho12] ?_
   obtain ⟨y15,hy15,hm⟩:=bindE hm
   obtain ⟨ho16,hm⟩:=chkE hm
   obtain ⟨ho17,hm⟩:=chkE hm
   obtain ⟨ho18,hm⟩:=chkE hm
   refine t_w [3,6,7,8] [vS (v8 ++ ((y15 ++ [58]) ++ (gi ci v9))),vL bU ci,vI (ln ci),vI v9] [kr fun _ hS => x_Itoa_ok _ _ hy15 _ (s0tab s0nil (hS.at 1 rfl)),kh ho16,kh ho17,kh ho18] ?_
   refine t_w [3,6,7,8] [vS (v8 ++ ((y15 ++ [58]) ++ (gi ci v9))),vL bU ci,vI (ln ci),vI (w64 (v9 + 1))] [] ?_
   exact fun _ _ H22 hS => ⟨_,Nat.lt_succ_self _,v8 ++ ((y15 ++ [58]) ++ (gi ci v9)),w64 (v9 + 1),hm,FrG.keep (ks:=[6,7,3,8]) H22 (by kernel_rfl),hS⟩
 ·refine t_sel [1] ?_
  refine t_r [2] [vS z5] [] (t_ret ?_)
  obtain rfl:=someE hm
  exact t_n [] rs1

def fh (s : List Str) : Option (List Str) :=
  chk (ln ([] : List Str) + ln s ≤ 137438953472) <|
  lt (([] : List Str) ++ s) fun q22 =>
  some q22
theorem kY {g_s : Gh} (s : List Str) (r : List Str) (hm : fh s = some r) : DoesM Tryz.prog 29 ⟨[vL g_s s]⟩ [eI tS s g_s] (fun (aA : Gh) => vL aA r) (fun aA => [eO 9 tS r aA]):=by
 rw [fh] at hm
 refine f_mem (Tryz.call29 _) Tryz.func29 Tryz.ntmps29 fun M X w => ?_
 refine t_r [0] [vL g_s s] [] (t_seq ?_)
 intro _ _ H2 hS
 rcases g_s with _ | ⟨_ | ad,gc,gs⟩
 ·obtain rfl : s = []:=SlG.nl (hS.im 0 rfl) rfl
  replace hm : (some ([] : List Str)) = some r:=hm
  refine t_in H2 hS ?_
  refine t_r [0,4] [.slice Gh.nil.a (([] : List Str).length) Gh.nil.c,vT] [] ?_
  intro _ _ H4 hS
  refine w_if H4 rfl (fun _ => ?_) (fun hc => by cases hc)
  refine t_in H4 hS ?_
  refine t_r [2] [vO] [] (t_sel [] (t_ret ?_))
  obtain rfl:=someE hm
  refine t_nil 9 tS ?_
  exact t_g Gh.nil [0] rs1
 ·obtain rfl : s = []:=SlG.nl (hS.im 0 rfl) rfl
  replace hm : (some ([] : List Str)) = some r:=hm
  refine t_in H2 hS ?_
  refine t_r [0,4] [.slice (Gh.mk none gc gs).a (([] : List Str).length) (Gh.mk none gc gs).c,vT] [] ?_
  intro _ _ H9 hS
  refine w_if H9 rfl (fun _ => ?_) (fun hc => by cases hc)
  refine t_in H9 hS ?_
  refine t_r [2] [vO] [] (t_sel [] (t_ret ?_))
  obtain rfl:=someE hm
  refine t_nil 9 tS ?_
  exact t_g Gh.nil [0] rs1
 ·skip
  refine t_in H2 hS ?_
  refine t_r [0,4] [.slice (Gh.mk (some ad) gc gs).a s.length (Gh.mk (some ad) gc gs).c,vF] [] ?_
  intro _ _ H14 hS
  refine w_if H14 rfl (fun hc => by cases hc) (fun _ => ?_)
  refine t_in H14 hS (t_skip (t_starts ?_))
  refine t_m [] [0] [0] [.slice (Gh.mk (some ad) gc gs).a s.length (Gh.mk (some ad) gc gs).c] (fun _ _ H14 hd => o_lit0 (T:=tS) (E:=9) hd (by kernel_rfl) (by kernel_rfl)) fun g15 => ?_
  refine t_b 2 [5,6] [vK g15 0,.slice (Gh.mk (some ad) gc gs).a s.length (Gh.mk (some ad) gc gs).c] [] ?_
  obtain ⟨ho21,hm⟩:=chkE hm
  obtain ⟨q22,hq22,hm⟩:=letE hm
  refine t_m [0,1] [1] [] [] (fun _ _ H20 hd => o_app (T:=tS) (zv:=vN) (g1:=g15) (g2:=(Gh.mk (some ad) gc gs)) (l1:=([] : List Str)) (l2:=s) q22 hq22.symm H20 hd rfl rfl rfl rfl rfl rfl rfl (by kernel_rfl) (by kernel_rfl) rfl rfl ho21) fun g25 => ?_
  refine t_b 4 [2] [vL g25 q22] [] (t_end (t_sel [0] (t_ret ?_)))
  obtain rfl:=someE hm
  exact t_g g25 [0] rs1

def fV (m : Nat) (ci : List Str) : Nat → Int → (List (List Str)) → Mi → Option ((List (List Str)) × Mi)
  | 0,_,_,_ => none
  | kk + 1,v3,v4,v6 =>
    cond (decide (v3 < (ln ci))) (
    Option.bind (
    chk (0 ≤ (0 : Int) ∧ (0 : Int) ≤ (w64 (v3 + 1)) ∧ (w64 (v3 + 1)) ≤ ln ci) <|
    lt (subl ci (0 : Int) (w64 (v3 + 1))) fun q15 =>
    Option.bind (lQ m q15) fun y20 =>
    lt (mget v6 y20) fun x25 =>
    lt (mhas v6 y20) fun x26 =>
    cond (!x26) (
    chk (mhas v6 y20 = false) <|
    lt (subl ci (0 : Int) (w64 (v3 + 1))) fun q39 =>
    Option.bind (fh q39) fun y42 =>
    chk (ln v4 + ln ([y42] : List (List Str)) ≤ 137438953472) <|
    lt (v4 ++ ([y42] : List (List Str))) fun q48 =>
    some (v6 ++ [(y20,ln v4)],q48)) (
    some (v6,v4))) fun (z9 : Mi × (List (List Str))) =>
    fV m ci kk (w64 (v3 + 1)) z9.2 z9.1) (
    some (v4,v6))
def ii (m : Nat) (ci : List Str) (eJ : Mi) (dU : List (List Str)) (bQ : List aw) : Option ((List (List Str)) × Mi) :=
  fV m ci m 0 dU eJ
theorem le {bU : Gh} {aW : Nat} {bu : Nat} {dc : Gh} {bp : Gh} (m : Nat) (ci : List Str) (eJ : Mi) (dU : List (List Str)) (bQ : List aw) (r : (List (List Str)) × Mi) (hm : ii m ci eJ dU bQ = some r) : DoesM Tryz.prog 27 ⟨[vL bU ci,vP aW]⟩ [eI tS ci bU,eB aW [.map (some bu),vL dc dU,vL bp bQ],Ent.mpi bu eJ,eO 55 (Ty.sl tS) dU dc,eO 69 am bQ bp,Ent.tab 0 (Lib.pow10Tab.map fun z => Value.int .u64 z)] (fun (aA : Gh) => vW []) (fun aA => [eB aW [.map (some bu),vL aA r.1,vL bp bQ],eO 55 (Ty.sl tS) r.1 aA,eO 69 am bQ bp,Ent.mpi bu r.2]):=by
 rw [ii] at hm
 refine f_mem (Tryz.call27 _) Tryz.func27 Tryz.ntmps27 fun M X w => ?_
 refine t_r [0,1,8,9] [vL bU ci,vP aW,vI (ln ci),vI 0] [] (t_block ?_)
 intro _ _ H2 hS
 refine w_loop (fun kk a' w' => ∃ (v3 : Int) (v4 : List (List Str)) (v6 : Mi) (g5 : Gh),fV m ci kk v3 v4 v6 = some _ ∧ Fr 43 (fS [0,1,8,9] [vL bU ci,vP aW,vI (ln ci),vI v3]) a' ∧ SH M X w [eI tS ci bU,eB aW [.map (some bu),vL g5 v4,vL bp bQ],Ent.mpi bu v6,eO 55 (Ty.sl tS) v4 g5,eO 69 am bQ bp,Ent.tab 0 (Lib.pow10Tab.map fun z => Value.int .u64 z)] w') ⟨_,0,dU,eJ,dc,hm,FrG.keep (ks:=[0,1,8,9]) H2 (by kernel_rfl),hS⟩ ?_
 clear hm H2 hS
 rintro kk _ _ ⟨v3,v4,v6,g5,hm,H,hS⟩
 cases kk with
 | zero => exact noneE hm
 | succ kk =>
  rw [fV] at hm
  refine t_in H hS ?_
  refine t_r [0,1,8,9,10] [vL bU ci,vP aW,vI (ln ci),vI v3,vB (decide (v3 < (ln ci)))] [] (t_seq ?_)
  refine t_im hm (fun hm => ?_) (fun hm => ?c62)
  case c62 =>
   refine t_exit ?_
   obtain rfl:=someE hm
   exact t_g g5 [1,3,4,2] rs0
  refine t_skip ?_
  obtain ⟨z9,hz,hm⟩:=bindE hm
  refine t_cutg [0,1,8,9] (fun (g58 : Gh) => [vL bU ci,vP aW,vI (ln ci),vI v3]) (fun g58 => [eI tS ci bU,eB aW [.map (some bu),vL g58 z9.2,vL bp bQ],Ent.mpi bu z9.1,eO 55 (Ty.sl tS) z9.2 g58,eO 69 am bQ bp,Ent.tab 0 (Lib.pow10Tab.map fun z => Value.int .u64 z)]) ?_ ?_
  ·replace hm:=hz
   refine t_block ?_
   refine t_r [0,1,3,8,9] [vL bU ci,vP aW,vI v3,vI (ln ci),vI v3] [] (t_starts ?_)
   refine t_b 3 [0,1,3,8,9,12,14] [vL bU ci,vP aW,vI v3,vI (ln ci),vI v3,vL bU ci,vI (w64 (v3 + 1))] [] ?_
   obtain ⟨ho14,hm⟩:=chkE hm
   obtain ⟨q15,hq15,hm⟩:=letE hm
   refine t_m [0] [0,1,2,3,4,5] [0,1,3,8,9] [vL bU ci,vP aW,vI v3,vI (ln ci),vI v3] (fun _ _ H13 hd => o_sub (T:=tS) (E:=9) (g:=bU) (q:=ci) (0 : Int) (w64 (v3 + 1)) .none (.some (vI (w64 (v3 + 1)))) H13 hd (hd.im 0 rfl) rfl rfl rfl rfl rfl rfl (.inl ⟨rfl,rfl⟩) (.inr ⟨_,rfl⟩) (by kernel_rfl) (by kernel_rfl) ho14) fun g18 => ?_
   rw [← hq15]
   obtain ⟨y20,hy20,hm⟩:=bindE hm
   refine t_b 6 [0,1,3,4,8,9] [vL bU ci,vP aW,vI v3,vS y20,vI (ln ci),vI v3] [kr fun _ hS => mU (bU:=g18) m _ _ hy20 _ (s0im (s0tab s0nil (hS.at 7 rfl)) (hS.im 0 rfl))] (t_end (t_sel [1,3,4,5,6,7] (t_starts ?_)))
   refine t_b 3 [0,1,3,4,8,9,19,20] [vL bU ci,vP aW,vI v3,vS y20,vI (ln ci),vI v3,.map (some bu),vS y20] [kb 1 0] ?_
   obtain ⟨x25,hx25,hm⟩:=letE hm
   obtain ⟨x26,hx26,hm⟩:=letE hm
   refine t_mv [2] [0,1,3,4,5] [0,1,3,4,8,9] [vL bU ci,vP aW,vI v3,vS y20,vI (ln ci),vI v3] (fun _ _ H24 hd => o_lookI (c:=true) (kt:=9) (et:=3) (vW [vI x25,vB x26]) (by rw [hx25,hx26]; rfl) H24 hd rfl rfl (by kernel_rfl) (by kernel_rfl) (by kernel_rfl)) ?_
   refine t_b 9 [0,1,3,4,6,8,9] [vL bU ci,vP aW,vI v3,vS y20,vB x26,vI (ln ci),vI v3] [] (t_end ?_)
   refine t_r [0,1,3,4,8,9,25] [vL bU ci,vP aW,vI v3,vS y20,vI (ln ci),vI v3,vB (!x26)] [] ?_
   refine t_im hm (fun hm => ?_) (fun hm => ?c57)
   case c57 =>
    refine t_skip ?_
    obtain rfl:=someE hm
    refine t_sel [1,2,0,3,4,5] ?_
    exact t_eg g5 [0,1,8,9]
   refine t_starts ?_
   refine t_b 6 [0,1,3,8,9,27,28,31] [vL bU ci,vP aW,vI v3,vI (ln ci),vI v3,.map (some bu),vS y20,vI (ln v4)] [kb 2 0,kb 2 1] ?_
   obtain ⟨ho35,hm⟩:=chkE hm
   refine t_m0 [0] [1,2,3,4,5] [0,1,3,8,9] [vL bU ci,vP aW,vI v3,vI (ln ci),vI v3] (fun _ _ H34 hd => o_updI (kt:=9) (et:=3) H34 hd rfl rfl rfl (by kernel_rfl) (by kernel_rfl) ho35) (t_end ?_)
   obtain ⟨q39,hq39,hm⟩:=letE hm
   obtain ⟨y42,hy42,hm⟩:=bindE hm
   obtain ⟨ho47,hm⟩:=chkE hm
   obtain ⟨q48,hq48,hm⟩:=letE hm
   intro _ _ H37 hS
   refine w_dS (base:=(fS [0,1,3,8,9] [vL bU ci,vP aW,vI v3,vI (ln ci),vI v3])) (L:=[Ent.mpi bu (v6 ++ [(y20,ln v4)]),eI tS ci bU,eB aW [.map (some bu),vL g5 v4,vL bp bQ],eO 55 (Ty.sl tS) v4 g5,eO 69 am bQ bp,Ent.tab 0 (Lib.pow10Tab.map fun z => Value.int .u64 z)]) 11 6 (fun yg38 => [vA aW 1,vL g5 v4,vL bU ci,vI v3,vI (w64 (v3 + 1)),.slice (yg38 5 0).a q39.length (yg38 5 0).c,.slice (yg38 6 0).a y42.length (yg38 6 0).c,vK (yg38 7 0) 1,.slice (yg38 8 0).a q48.length (yg38 8 0).c,vA aW 1,undef]) (fun yg38 => [[],[],[],[],[],[eI tS q39 (yg38 5 0)],[eO 9 tS y42 (yg38 6 0)],[eO 55 (Ty.sl tS) ([y42] : List (List Str)) (yg38 7 0),eI tS y42 (yg38 6 0)],[eO 55 (Ty.sl tS) q48 (yg38 8 0)],[],[eB aW [.map (some bu),.slice (yg38 8 0).a q48.length (yg38 8 0).c,vL bp bQ]]]) [[11,13,14,15],[11,13,14,15],[],[],[],[12],[5],[6],[7,14],[8,11,13,15],[8,11,13,15]] [[],[],[],[],[],[],[],[6],[14],[],[13]] [[0],[0,1],[2],[3],[3,4],[2,3,4,5],[2,3,4,5,6],[2,3,4,5,6,7],[0,1,2,3,4,5,6,7,8],[9],[0,1,2,3,4,5,6,7,8,9,10]] [] (FrG.keep (ks:=[0,1,3,8,9]) H37 (by kernel_rfl)) (fun _ _ h => by cases h) (by kernel_rfl) hS (by kernel_rfl) rfl rfl (by kernel_rfl) (by kernel_rfl) (by kernel_rfl) (gd_none (by kernel_rfl) _ _) ?hstep_yg38 fun _ _ yg38 H51 hv hS => ?hK_yg38
   case hstep_yg38 =>
    refine ⟨se0,(se (fun _ _ => [⟨some (vL g5 v4),rA aW 1 (vL g5 v4),fun _ hS => ((hS.bk 1 rfl).at1 rfl)⟩])),se0,se0,se0,?_,?_,?_,?_,se0,?_,trivial⟩
    ·intro o ho a w yg38 M Hb hv hO hS0
     obtain rfl:=someE ho
     have H:=((Hb).add (hv 2 (by decide) (by decide) 34 rfl)).add (hv 4 (by decide) (by decide) 36 rfl)
     have hS:=hS0
     have hd:=hS.hand [0] [0] rfl rfl
     refine Stp.mono (o_sub (T:=tS) (E:=9) (g:=bU) (q:=ci) (0 : Int) (w64 (v3 + 1)) .none (.some (vI (w64 (v3 + 1)))) H hd (hd.im 0 rfl) rfl rfl rfl rfl rfl rfl (.inl ⟨rfl,rfl⟩) (.inr ⟨_,rfl⟩) (by kernel_rfl) (by kernel_rfl) ho14) ?_
     rintro v w2 hq
     obtain ⟨g40,hv,hq⟩:=hq
     rw [← hq39] at hv hq
     subst hv
     replace hS:=hS.join [0] [0] rfl rfl hq
     exact ⟨gL [g40],fun _ _ => rfl,hS.sel [0,1] rfl⟩
    ·intro o ho a w yg38 M Hb hv hO hS0
     obtain rfl:=someE ho
     have H:=(Hb).add (hv 5 (by decide) (by decide) 37 rfl)
     have hS:=hS0
     have hd:=hS.hand [0] [0] rfl rfl
     refine Stp.mono (o_callx H rfl rfl (kY (g_s:=(yg38 5 0)) _ _ hy42 _ _ hd)) ?_
     rintro v w2 hq
     obtain ⟨g43,rfl,hq⟩:=hq
     replace hS:=hS.join [0] [0] rfl rfl hq
     exact ⟨gL [g43],fun _ _ => rfl,hS.sel [0,1] rfl⟩
    ·intro o ho a w yg38 M Hb hv hO hS0
     obtain rfl:=someE ho
     have H:=(Hb).add (hv 6 (by decide) (by decide) 38 rfl)
     have hS:=hS0
     replace hS:=SH.frz1 (hS.sel [0] rfl)
     have hd:=hS.hand [0] [0] rfl rfl
     refine Stp.mono (o_li (T:=(Ty.sl tS)) (E:=55) (zv:=vO) [.slice (yg38 6 0).a y42.length (yg38 6 0).c] ([y42] : List (List Str)) [gL [(yg38 6 0)]] H hd rfl (InnL.cons (hd.im 0 rfl) InnL.nil)) ?_
     rintro v w2 hq
     obtain ⟨g45,rfl,hq⟩:=hq
     replace hS:=hS.join [0] [0] rfl rfl hq
     exact ⟨gL [g45],fun _ _ => rfl,hS.sel [0,1] rfl⟩
    ·intro o ho a w yg38 M Hb hv hO hS0
     obtain rfl:=someE ho
     have H:=((Hb).add (hv 1 (by decide) (by decide) 33 rfl)).add (hv 7 (by decide) (by decide) 39 rfl)
     have hS:=hS0
     have hd:=hS.hand [2,0] [1] rfl rfl
     refine Stp.mono (o_app2 (T:=(Ty.sl tS)) (zv:=vO) (g1:=g5) (g2:=(yg38 7 0)) (l1:=v4) (l2:=([y42] : List (List Str))) q48 hq48.symm H hd rfl rfl rfl rfl rfl rfl rfl (by kernel_rfl) (by kernel_rfl) rfl rfl ho47) ?_
     rintro v w2 hq
     obtain ⟨g49,rfl,hq⟩:=hq
     replace hS:=hS.join [2,0] [1] rfl rfl hq
     exact ⟨gL [g49],fun _ _ => rfl,hS.sel [0,1,2] rfl⟩
    ·intro o ho a w yg38 M Hb hv hO hS0
     obtain rfl:=someE ho
     have H:=((Hb).add (hv 8 (by decide) (by decide) 40 rfl)).add (hv 9 (by decide) (by decide) 41 rfl)
     have hS:=hS0
     have hd:=hS.hand [2] [0,1,3] rfl rfl
     refine Stp.mono (o_store [.map (some bu),.slice (yg38 8 0).a q48.length (yg38 8 0).c,vL bp bQ] H hd rfl rfl (by kernel_rfl) rfl rfl rfl) ?_
     rintro v w2 hq
     replace hS:=hS.join [2] [0,1,3] rfl rfl hq
     exact ⟨gL [],(fun _ h => by cases h),hS.sel [0,1,2,3] rfl⟩
   have H52 : Fr 43 (fS [0,1,8,9] [vL bU ci,vP aW,vI (ln ci),vI v3]) _:=(FrG.keep (ks:=[0,1,8,9]) H51 (by kernel_rfl))
   replace hS : SH M X w [eI tS q39 (yg38 5 0),eO 55 (Ty.sl tS) ([y42] : List (List Str)) (yg38 7 0),eI tS y42 (yg38 6 0),eO 55 (Ty.sl tS) q48 (yg38 8 0),eB aW [.map (some bu),.slice (yg38 8 0).a q48.length (yg38 8 0).c,vL bp bQ],Ent.mpi bu (v6 ++ [(y20,ln v4)]),eI tS ci bU,eO 69 am bQ bp,Ent.tab 0 (Lib.pow10Tab.map fun z => Value.int .u64 z)] _:=hS
   clear hv H51
   generalize yg38 5 0 = g53 at H52 hS
   generalize yg38 7 0 = g54 at H52 hS
   generalize yg38 6 0 = g55 at H52 hS
   generalize yg38 8 0 = g56 at H52 hS
   replace hS:=hS.sel [3,4,5,6,7,8] rfl
   obtain rfl:=someE hm
   replace hS:=hS.sel [3,1,2,0,4,5] rfl
   exact ⟨g56,FrG.keep (ks:=[0,1,8,9]) H52 (by kernel_rfl),hS⟩
  ·intro g58
   refine t_w [0,1,8,9] [vL bU ci,vP aW,vI (ln ci),vI (w64 (v3 + 1))] [] ?_
   exact fun _ _ H60 hS => ⟨_,Nat.lt_succ_self _,w64 (v3 + 1),z9.2,z9.1,g58,hm,FrG.keep (ks:=[0,1,8,9]) H60 (by kernel_rfl),hS⟩

def pq (gf : (List aS) → Int → (List Str) → Int → Mi → (List (List Str)) → (List aw) → Int → Option ((List (List Str)) × (List aw) × Mi × Int)) : Prop:=∀ (aq : Gh) (aG : Gh) (aW : Nat) (bO : Nat) (bd : Nat) (cZ : Gh) (cv : Gh) (cI : Nat) (cK : Nat) (cJ : Nat) (M : Av) (rules : List aS) (ba : Int) (aD : List Str) (cj : Int) (fm : Mi) (de : List (List Str)) (cE : List aw) (u3 : Int) (r : (List (List Str)) × (List aw) × Mi × Int),gf rules ba aD cj fm de cE u3 = some r → ∀ w,S0 M [eI aJ rules aq,eI tS aD aG,eB aW [vI cj],eB bO [.map (some bd),vL cZ de,vL cv cE],Ent.mpi bd fm,eO 55 (Ty.sl tS) de cZ,eO 69 am cE cv,eB cI [.func (.func 27) ⟨[]⟩ ⟨[vP bO]⟩],eB cK [vI u3],eB cJ [.func (.func 30) ⟨[]⟩ ⟨[vP aW,vP bO,vP cI,vP cK,vP cJ]⟩],gE4,Ent.tab 0 (Lib.pow10Tab.map fun z => Value.int .u64 z)] w → Calls Tryz.prog 30 ⟨[vL aq rules,vI ba,vL aG aD,vP aW,vP bO,vP cI,vP cK,vP cJ]⟩ w (fun e w' => ∃ v,e = .returned v ∧ ∃ (aA : Gh) (cY : Gh),v = vW [] ∧ SH M (fpl [eI aJ rules aq,eI tS aD aG,eB aW [vI cj],eB bO [.map (some bd),vL cZ de,vL cv cE],Ent.mpi bd fm,eO 55 (Ty.sl tS) de cZ,eO 69 am cE cv,eB cI [.func (.func 27) ⟨[]⟩ ⟨[vP bO]⟩],eB cK [vI u3],eB cJ [.func (.func 30) ⟨[]⟩ ⟨[vP aW,vP bO,vP cI,vP cK,vP cJ]⟩],gE4,Ent.tab 0 (Lib.pow10Tab.map fun z => Value.int .u64 z)]) w [eB aW [vI cj],eB bO [.map (some bd),vL aA r.1,vL cY r.2.1],eO 55 (Ty.sl tS) r.1 aA,eO 69 am r.2.1 cY,Ent.mpi bd r.2.2.1,eB cI [.func (.func 27) ⟨[]⟩ ⟨[vP bO]⟩],eB cK [vI r.2.2.2],eB cJ [.func (.func 30) ⟨[]⟩ ⟨[vP aW,vP bO,vP cI,vP cK,vP cJ]⟩]] w')
def fX (m : Nat) (rules : List aS) (aD : List Str) (v3 : Int) (v6 : List aw) : Nat → Int → (List (List Str)) → Mi → Option (Mi × (List (List Str)))
  | 0,_,_,_ => none
  | kk + 1,v58,v59,v61 =>
    lt (decide (v58 < (ln ((gi rules v3).aQ)))) fun x62 =>
    cond x62 (
    chk (0 ≤ v58 ∧ v58 < ln ((gi rules v3).aQ)) <|
    Option.bind (ek m ([aD,(gi ((gi rules v3).aQ) v58)] : List (List Str))) fun y72 =>
    Option.bind (ii m y72 v61 v59 v6) fun y75 =>
    fX m rules aD v3 v6 kk (w64 (v58 + 1)) y75.1 y75.2) (
    some (v61,v59))
def fW (m : Nat) (rules : List aS) (ba : Int) (aD : List Str) (cj : Int) (kT : (List aS) → Int → (List Str) → Int → Mi → (List (List Str)) → (List aw) → Int → Option ((List (List Str)) × (List aw) × Mi × Int)) : Nat → Int → (List (List Str)) → (List aw) → Int → Mi → Option ((List (List Str)) × (List aw) × Mi × Int)
  | 0,_,_,_,_,_ => none
  | kk + 1,v3,v4,v6,v8,v9 =>
    cond (decide (v3 < (ln rules))) (
    Option.bind (
    chk (0 ≤ v3 ∧ v3 < ln rules) <|
    Option.bind (lA m (gi rules v3) (iu.mk cj)) fun y21 =>
    cond (!y21) (
    some (v6,v4,v8,v6,v9,v4)) (
    Option.bind (
    cond (((gi rules v3).aj) == 1) (
    chk (ln v6 + ln ([(aw.mk ba aD (gi rules v3))] : List aw) ≤ 137438953472) <|
    lt (v6 ++ ([(aw.mk ba aD (gi rules v3))] : List aw)) fun q44 =>
    Option.bind (
    some (q44,v4,v8,q44,v9,v4)) fun r52 => some (.inl r52)) (
    cond (((gi rules v3).aj) == 5) (
    Option.bind (
    fX m rules aD v3 v6 m 0 v4 v9) fun (z55 : Mi × (List (List Str))) =>
    Option.bind (
    some (v6,z55.2,v8,v6,z55.1,z55.2)) fun r89 => some (.inl r89)) (
    cond (((gi rules v3).aj) == 4) (
    Option.bind (x_Itoa v8) fun y93 =>
    chk (ln [0] + ln y93 ≤ 9223372036854775807) <|
    Option.bind (
    cond (decide (0 < (ln ((gi rules v3).aQ)))) (
    chk (0 ≤ (0 : Int) ∧ (0 : Int) < ln ((gi rules v3).aQ)) <|
    some ((gi ((gi rules v3).aQ) (0 : Int)),v8)) (
    some (([[0] ++ y93] : List Str),w64 (v8 + 1)))) fun (uI : (List Str) × Int) =>
    Option.bind (ek m ([aD,uI.1] : List (List Str))) fun y124 =>
    Option.bind (ii m y124 v9 v4 v6) fun y133 =>
    some (.inr (y124,y133.1,uI.2,y133.2))) (
    some (.inr (aD,v4,v8,v9)))))) fun (z26 : Sum ((List aw) × (List (List Str)) × Int × (List aw) × Mi × (List (List Str))) ((List Str) × (List (List Str)) × Int × Mi)) => sumK z26 fun s_z26 =>
    Option.bind (kT ((gi rules v3).aF) ba s_z26.1 cj s_z26.2.2.2 s_z26.2.1 v6 s_z26.2.2.1) fun y150 =>
    some (y150.2.1,y150.1,y150.2.2.2,v6,y150.2.2.1,v4))) fun (z12 : (List aw) × (List (List Str)) × Int × (List aw) × Mi × (List (List Str))) =>
    fW m rules ba aD cj kT kk (w64 (v3 + 1)) z12.2.1 z12.1 z12.2.2.1 z12.2.2.2.2.1) (
    some (v4,v6,v9,v8))
def fj (m : Nat) : Nat → (List aS) → Int → (List Str) → Int → Mi → (List (List Str)) → (List aw) → Int → Option ((List (List Str)) × (List aw) × Mi × Int)
  | 0,_,_,_,_,_,_,_,_ => none
  | k + 1,rules,ba,aD,cj,fm,de,cE,u3 =>
    fW m rules ba aD cj (fj m k) m 0 de cE u3 fm
theorem pg (m : Nat) : ∀ (k : Nat),pq (fj m  k):=by
 intro k
 induction k with
 | zero => intro aq aG aW bO bd cZ cv cI cK cJ M rules ba aD cj fm de cE u3 r hm; exact noneE hm
 | succ k ih =>
  intro aq aG aW bO bd cZ cv cI cK cJ M rules ba aD cj fm de cE u3 r hm w hS
  rw [fj] at hm
  have hS0 : SH M (fpl [eI aJ rules aq,eI tS aD aG,eB aW [vI cj],eB bO [.map (some bd),vL cZ de,vL cv cE],Ent.mpi bd fm,eO 55 (Ty.sl tS) de cZ,eO 69 am cE cv,eB cI [.func (.func 27) ⟨[]⟩ ⟨[vP bO]⟩],eB cK [vI u3],eB cJ [.func (.func 30) ⟨[]⟩ ⟨[vP aW,vP bO,vP cI,vP cK,vP cJ]⟩],gE4,Ent.tab 0 (Lib.pow10Tab.map fun z => Value.int .u64 z)]) w [eI aJ rules aq,eI tS aD aG,eB aW [vI cj],eB bO [.map (some bd),vL cZ de,vL cv cE],Ent.mpi bd fm,eO 55 (Ty.sl tS) de cZ,eO 69 am cE cv,eB cI [.func (.func 27) ⟨[]⟩ ⟨[vP bO]⟩],eB cK [vI u3],eB cJ [.func (.func 30) ⟨[]⟩ ⟨[vP aW,vP bO,vP cI,vP cK,vP cJ]⟩],gE4,Ent.tab 0 (Lib.pow10Tab.map fun z => Value.int .u64 z)] w:=hS
  generalize hX : fpl [eI aJ rules aq,eI tS aD aG,eB aW [vI cj],eB bO [.map (some bd),vL cZ de,vL cv cE],Ent.mpi bd fm,eO 55 (Ty.sl tS) de cZ,eO 69 am cE cv,eB cI [.func (.func 27) ⟨[]⟩ ⟨[vP bO]⟩],eB cK [vI u3],eB cJ [.func (.func 30) ⟨[]⟩ ⟨[vP aW,vP bO,vP cI,vP cK,vP cJ]⟩],gE4,Ent.tab 0 (Lib.pow10Tab.map fun z => Value.int .u64 z)] = X at hS0 ⊢
  clear hS hX
  have hS:=hS0
  clear hS0
  refine calls_entryP Tryz.func30 rfl Tryz.ntmps30 rfl fun _ H => ?_
  refine t_in H hS ?_
  refine t_r [1,2,3,4,5,6,7,17,18,19] [vI ba,vL aG aD,vP aW,vP bO,vP cI,vP cK,vP cJ,vL aq rules,vI (ln rules),vI 0] [] (t_block ?_)
  intro _ _ H2 hS
  refine w_loop (fun kk a' w' => ∃ (v3 : Int) (v4 : List (List Str)) (v6 : List aw) (v8 : Int) (v9 : Mi) (g5 : Gh) (g7 : Gh),fW m rules ba aD cj (fj m k) kk v3 v4 v6 v8 v9 = some _ ∧ Fr 87 (fS [1,2,3,4,5,6,7,17,18,19] [vI ba,vL aG aD,vP aW,vP bO,vP cI,vP cK,vP cJ,vL aq rules,vI (ln rules),vI v3]) a' ∧ SH M X w [eI aJ rules aq,eI tS aD aG,eB aW [vI cj],eB bO [.map (some bd),vL g5 v4,vL g7 v6],Ent.mpi bd v9,eO 55 (Ty.sl tS) v4 g5,eO 69 am v6 g7,eB cI [.func (.func 27) ⟨[]⟩ ⟨[vP bO]⟩],eB cK [vI v8],eB cJ [.func (.func 30) ⟨[]⟩ ⟨[vP aW,vP bO,vP cI,vP cK,vP cJ]⟩],gE4,Ent.tab 0 (Lib.pow10Tab.map fun z => Value.int .u64 z)] w') ⟨_,0,de,cE,u3,fm,cZ,cv,hm,FrG.keep (ks:=[1,2,3,4,5,6,7,17,18,19]) H2 (by kernel_rfl),hS⟩ ?_
  clear hm H2 hS
  rintro kk _ _ ⟨v3,v4,v6,v8,v9,g5,g7,hm,H,hS⟩
  cases kk with
  | zero => exact noneE hm
  | succ kk =>
   rw [fW] at hm
   refine t_in H hS ?_
   refine t_r [1,2,3,4,5,6,7,17,18,19,20] [vI ba,vL aG aD,vP aW,vP bO,vP cI,vP cK,vP cJ,vL aq rules,vI (ln rules),vI v3,vB (decide (v3 < (ln rules)))] [] (t_seq ?_)
   refine t_im hm (fun hm => ?_) (fun hm => ?c168)
   case c168 =>
    refine t_exit ?_
    obtain rfl:=someE hm
    intro _ _ H11 hS
    try dsimp only
    exact retR0 H11 rfl ⟨_,rfl,g5,g7,rfl,(hS.sel [2,3,5,6,4,7,8,9] rfl)⟩
   refine t_skip ?_
   obtain ⟨z12,hz,hm⟩:=bindE hm
   intro _ _ H11 hS
   refine w_cut (fun a' w' => ∃ (wy : Gh) (wu : Gh) (wM : Gh) (wP : Gh),Fr 87 (fS [1,2,3,4,5,6,7,17,18,19] [vI ba,vL aG aD,vP aW,vP bO,vP cI,vP cK,vP cJ,vL aq rules,vI (ln rules),vI v3]) a' ∧ SH M X w [eO 69 am z12.1 wy,eO 55 (Ty.sl tS) z12.2.1 wu,eI aJ rules aq,eI tS aD aG,eB aW [vI cj],eB bO [.map (some bd),vL wu z12.2.1,vL wy z12.1],Ent.mpi bd z12.2.2.2.2.1,eB cI [.func (.func 27) ⟨[]⟩ ⟨[vP bO]⟩],eB cK [vI z12.2.2.1],eB cJ [.func (.func 30) ⟨[]⟩ ⟨[vP aW,vP bO,vP cI,vP cK,vP cJ]⟩],gE4,Ent.tab 0 (Lib.pow10Tab.map fun z => Value.int .u64 z)] w') ?_ ?_
   ·replace hm:=hz
    refine t_in H11 hS (t_block (t_starts ?_))
    obtain ⟨ho13,hm⟩:=chkE hm
    refine t_b 2 [1,2,3,4,5,6,7,17,18,19,22] [vI ba,vL aG aD,vP aW,vP bO,vP cI,vP cK,vP cJ,vL aq rules,vI (ln rules),vI v3,.agg ⟨e5 (gi rules v3) (aq.s (v3).toNat)⟩] [ki 0 ho13,⟨some (.agg ⟨e5 (gi rules v3) (aq.s (v3).toNat)⟩),fun wz => V.atN (ab aq.a) (ao aq.a + (v3).toNat * 12) (e5 (gi rules v3) (aq.s (v3).toNat)) 0 wz,fun _ hS => ((hS.im 0 rfl).atA ho13 0 rfl)⟩] ?_
    refine t_m [] [0,1,2,3,4,5,6,7,8,9,10,11] [1,2,3,4,5,6,7,17,18,19,22] [vI ba,vL aG aD,vP aW,vP bO,vP cI,vP cK,vP cJ,vL aq rules,vI (ln rules),vI v3,.agg ⟨e5 (gi rules v3) (aq.s (v3).toNat)⟩] (fun _ _ H15 hd => o_alloc [vU 0,vO,vO,vU 0,vN,vI 0,vN,vO,vF,vO,vO,vO] (z:=vG [vU 0,vO,vO,vU 0,vN,vI 0,vN,vO,vF,vO,vO,vO]) hd (by kernel_rfl) rfl) fun b16 => ?_
    refine t_m0 [0] [1,2,3,4,5,6,7,8,9,10,11,12] [1,2,3,4,5,6,7,12,17,18,19] [vI ba,vL aG aD,vP aW,vP bO,vP cI,vP cK,vP cJ,vP b16,vL aq rules,vI (ln rules),vI v3] (fun _ _ H18 hd => o_store (e5 (gi rules v3) (aq.s (v3).toNat)) H18 hd rfl rfl (by kernel_rfl) rfl rfl rfl) (t_end (t_seq ?_))
    obtain ⟨y21,hy21,hm⟩:=bindE hm
    refine t_r [1,2,3,4,5,6,7,12,17,18,19,26] [vI ba,vL aG aD,vP aW,vP bO,vP cI,vP cK,vP cJ,vP b16,vL aq rules,vI (ln rules),vI v3,vB (!y21)] [kE 0 12,kE 3 1,kr fun _ hS => nS (ez:=(aq.s (v3).toNat 0)) (er:=(aq.s (v3).toNat 1)) (dv:=(aq.s (v3).toNat 2)) (dw:=(aq.s (v3).toNat 3)) (ew:=(aq.s (v3).toNat 4)) (eE:=(aq.s (v3).toNat 5)) m _ _ _ hy21 _ (s0im (s0im (s0im (s0im (s0im (s0im (s0im s0nil (hS.im 11 rfl)) (jV ((hS.im 1 rfl).el ho13))) (fC ((hS.im 1 rfl).el ho13))) (fx ((hS.im 1 rfl).el ho13))) (fA ((hS.im 1 rfl).el ho13))) (ng ((hS.im 1 rfl).el ho13))) (jW ((hS.im 1 rfl).el ho13)))] ?_
    refine t_im hm (fun hm => ?c158) (fun hm => ?_)
    case c158 =>
     refine t_exit ?_
     obtain rfl:=someE hm
     refine t_sel [7,6,1,2,3,4,5,8,9,10,11,12] ?_
     exact fun _ _ H23 hS => ⟨g7,g5,g7,g5,FrG.keep (ks:=[1,2,3,4,5,6,7,17,18,19]) H23 (by kernel_rfl),hS⟩
    refine t_skip ?_
    refine t_r [1,2,3,4,5,6,7,12,13,17,18,19] [vI ba,vL aG aD,vP aW,vP bO,vP cI,vP cK,vP cJ,vP b16,vL aG aD,vL aq rules,vI (ln rules),vI v3] [] ?_
    obtain ⟨z26,hz,hm_z26⟩:=bindE hm
    intro _ _ H25 hS
    refine w_cut (fun a' w' => ∃ s_z26 : (List Str) × (List (List Str)) × Int × Mi,z26 = Sum.inr s_z26 ∧ ∃ (wq : Gh) (ww : Gh),Fr 87 (fS [1,2,3,4,5,6,7,12,17,18,19,13] [vI ba,vL aG aD,vP aW,vP bO,vP cI,vP cK,vP cJ,vP b16,vL aq rules,vI (ln rules),vI v3,vL wq s_z26.1]) a' ∧ SH M X w [eI tS s_z26.1 wq,eO 55 (Ty.sl tS) s_z26.2.1 ww,eB b16 (e5 (gi rules v3) (aq.s (v3).toNat)),eI aJ rules aq,eI tS aD aG,eB aW [vI cj],eB bO [.map (some bd),vL ww s_z26.2.1,vL g7 v6],Ent.mpi bd s_z26.2.2.2,eO 69 am v6 g7,eB cI [.func (.func 27) ⟨[]⟩ ⟨[vP bO]⟩],eB cK [vI s_z26.2.2.1],eB cJ [.func (.func 30) ⟨[]⟩ ⟨[vP aW,vP bO,vP cI,vP cK,vP cJ]⟩],gE4,Ent.tab 0 (Lib.pow10Tab.map fun z => Value.int .u64 z)] w') ?_ ?_
    ·replace hm:=hz
     refine t_in H25 hS ?_
     refine t_r [1,2,3,4,5,6,7,12,13,17,18,19,29] [vI ba,vL aG aD,vP aW,vP bO,vP cI,vP cK,vP cJ,vP b16,vL aG aD,vL aq rules,vI (ln rules),vI v3,vU ((gi rules v3).aj)] [kb 0 0] (t_block ?_)
     refine t_r [1,2,3,4,5,6,7,12,13,17,18,19,29,30] [vI ba,vL aG aD,vP aW,vP bO,vP cI,vP cK,vP cJ,vP b16,vL aG aD,vL aq rules,vI (ln rules),vI v3,vU ((gi rules v3).aj),vB (((gi rules v3).aj) == 1)] [] ?_
     refine t_im hm (fun hm => ?c142) (fun hm => ?_)
     case c142 =>
      refine t_starts ?_
      refine t_b 6 [1,2,3,4,5,6,7,17,18,19,33,37] [vI ba,vL aG aD,vP aW,vP bO,vP cI,vP cK,vP cJ,vL aq rules,vI (ln rules),vI v3,vL g7 v6,vG [vI ba,vL aG aD,vU ((gi rules v3).aj),.slice (aq.s (v3).toNat 0).a (((gi rules v3).aC).length) (aq.s (v3).toNat 0).c,.slice (aq.s (v3).toNat 1).a (((gi rules v3).bl).length) (aq.s (v3).toNat 1).c,vU ((gi rules v3).aB.aj),vS (gi rules v3).aB.bA,vI ((gi rules v3).aB.Num),vS (gi rules v3).aB.az.bA,.slice (aq.s (v3).toNat 2).a (((gi rules v3).aB.az.Value).length) (aq.s (v3).toNat 2).c,vB ((gi rules v3).aB.az.bK),.slice (aq.s (v3).toNat 3).a (((gi rules v3).aB.a8).length) (aq.s (v3).toNat 3).c,.slice (aq.s (v3).toNat 4).a (((gi rules v3).aQ).length) (aq.s (v3).toNat 4).c,.slice (aq.s (v3).toNat 5).a (((gi rules v3).aF).length) (aq.s (v3).toNat 5).c]] [kb 4 2,kE 0 12] ?_
      intro _ _ H32 hS
      replace hS:=hS.addIm (jW ((hS.im 1 rfl).el ho13))
      replace hS:=hS.addIm (ng ((hS.im 2 rfl).el ho13))
      replace hS:=hS.addIm (fA ((hS.im 3 rfl).el ho13))
      replace hS:=hS.addIm (fx ((hS.im 4 rfl).el ho13))
      replace hS:=hS.addIm (fC ((hS.im 5 rfl).el ho13))
      replace hS:=hS.addIm (jV ((hS.im 6 rfl).el ho13))
      refine t_in H32 hS ?_
      refine t_m [8,5,4,3,2,1,0] [0,1,2,3,4,5,6,7,8,9,10,11,12,13,14,15,16,17,18] [1,2,3,4,5,6,7,17,18,19,33] [vI ba,vL aG aD,vP aW,vP bO,vP cI,vP cK,vP cJ,vL aq rules,vI (ln rules),vI v3,vL g7 v6] (fun _ _ H32 hd => o_li (T:=am) (E:=69) (zv:=vG [vI 0,vO,vU 0,vO,vO,vU 0,vN,vI 0,vN,vO,vF,vO,vO,vO]) [vI ba,vL aG aD,vU ((gi rules v3).aj),.slice (aq.s (v3).toNat 0).a (((gi rules v3).aC).length) (aq.s (v3).toNat 0).c,.slice (aq.s (v3).toNat 1).a (((gi rules v3).bl).length) (aq.s (v3).toNat 1).c,vU ((gi rules v3).aB.aj),vS (gi rules v3).aB.bA,vI ((gi rules v3).aB.Num),vS (gi rules v3).aB.az.bA,.slice (aq.s (v3).toNat 2).a (((gi rules v3).aB.az.Value).length) (aq.s (v3).toNat 2).c,vB ((gi rules v3).aB.az.bK),.slice (aq.s (v3).toNat 3).a (((gi rules v3).aB.a8).length) (aq.s (v3).toNat 3).c,.slice (aq.s (v3).toNat 4).a (((gi rules v3).aQ).length) (aq.s (v3).toNat 4).c,.slice (aq.s (v3).toNat 5).a (((gi rules v3).aF).length) (aq.s (v3).toNat 5).c] ([(aw.mk ba aD (gi rules v3))] : List aw) [gL [aG,(aq.s (v3).toNat 0),(aq.s (v3).toNat 1),(aq.s (v3).toNat 2),(aq.s (v3).toNat 3),(aq.s (v3).toNat 4),(aq.s (v3).toNat 5)]] H32 hd rfl (InnL.cons (qe (hd.im 0 rfl) (hd.im 1 rfl) (hd.im 2 rfl) (hd.im 3 rfl) (hd.im 4 rfl) (hd.im 5 rfl) (hd.im 6 rfl)) InnL.nil)) fun g33 => ?_
      obtain ⟨ho43,hm⟩:=chkE hm
      obtain ⟨q44,hq44,hm⟩:=letE hm
      refine t_m [14,0] [1,2,3,4,5,6,7,8,9,10,11,12,13,15,16,17,18,19] [1,2,3,4,5,6,7,17,18,19] [vI ba,vL aG aD,vP aW,vP bO,vP cI,vP cK,vP cJ,vL aq rules,vI (ln rules),vI v3] (fun _ _ H42 hd => o_app2 (T:=am) (zv:=vG [vI 0,vO,vU 0,vO,vO,vU 0,vN,vI 0,vN,vO,vF,vO,vO,vO]) (g1:=g7) (g2:=g33) (l1:=v6) (l2:=([(aw.mk ba aD (gi rules v3))] : List aw)) q44 hq44.symm H42 hd rfl rfl rfl rfl rfl rfl rfl (by kernel_rfl) (by kernel_rfl) rfl rfl ho43) fun g47 => ?_
      refine t_b 9 [1,2,3,4,5,6,7,17,18,19,39,40] [vI ba,vL aG aD,vP aW,vP bO,vP cI,vP cK,vP cJ,vL aq rules,vI (ln rules),vI v3,vL g47 q44,vA bO 2] [] ?_
      refine t_m0 [12] [0,1,2,3,4,5,6,7,8,9,10,11,13,14,15,16,17,18,19] [1,2,3,4,5,6,7,17,18,19] [vI ba,vL aG aD,vP aW,vP bO,vP cI,vP cK,vP cJ,vL aq rules,vI (ln rules),vI v3] (fun _ _ H49 hd => o_store [.map (some bd),vL g5 v4,vL g47 q44] H49 hd rfl rfl (by kernel_rfl) rfl rfl rfl) (t_end (t_sel [0,1,9,10,11,12,13,14,15,16,17,18,19] ?_))
      refine t_exit ?_
      obtain ⟨r52,hr_r52,hm⟩:=bindE hm
      obtain rfl:=someE hm
      have hm:=hm_z26
      obtain rfl:=someE hm
      have hm:=hr_r52
      intro _ _ H51 hS
      clear hr_r52
      obtain rfl:=someE hm
      replace hS:=hS.sel [1,7,3,4,5,0,6,8,9,10,11,12] rfl
      exact ⟨g47,g5,g47,g5,FrG.keep (ks:=[1,2,3,4,5,6,7,17,18,19]) H51 (by kernel_rfl),hS⟩
     refine t_r [1,2,3,4,5,6,7,12,13,17,18,19,29,41] [vI ba,vL aG aD,vP aW,vP bO,vP cI,vP cK,vP cJ,vP b16,vL aG aD,vL aq rules,vI (ln rules),vI v3,vU ((gi rules v3).aj),vB (((gi rules v3).aj) == 5)] [] ?_
     refine t_if (fun hc => ?_) (fun hc => ?c141)
     case c141 =>
      replace hm:=bF hc hm
      refine t_r [1,2,3,4,5,6,7,12,13,17,18,19,57] [vI ba,vL aG aD,vP aW,vP bO,vP cI,vP cK,vP cJ,vP b16,vL aG aD,vL aq rules,vI (ln rules),vI v3,vB (((gi rules v3).aj) == 4)] [] ?_
      refine t_im hm (fun hm => ?_) (fun hm => ?c140)
      case c140 =>
       refine t_skip ?_
       obtain rfl:=someE hm
       intro _ _ H92 hS
       replace hS:=hS.addIm (hS.im 2 rfl)
       replace hS:=hS.sel [0,7,1,2,3,4,5,6,8,9,10,11,12,13] rfl
       exact ⟨_,rfl,aG,g5,FrG.keep (ks:=[1,2,3,4,5,6,7,12,17,18,19,13]) H92 (by kernel_rfl),hS⟩
      refine t_starts ?_
      obtain ⟨y93,hy93,hm⟩:=bindE hm
      obtain ⟨ho94,hm⟩:=chkE hm
      refine t_b 3 [1,2,3,4,5,6,7,12,17,18,19,61] [vI ba,vL aG aD,vP aW,vP bO,vP cI,vP cK,vP cJ,vP b16,vL aq rules,vI (ln rules),vI v3,vS ([0] ++ y93)] [kb 9 0,kr fun _ hS => x_Itoa_ok _ _ hy93 _ (s0tab s0nil (hS.at 12 rfl)),kh ho94] ?_
      refine t_m [] [0,1,2,3,4,5,6,7,8,9,10,11,12] [1,2,3,4,5,6,7,12,17,18,19] [vI ba,vL aG aD,vP aW,vP bO,vP cI,vP cK,vP cJ,vP b16,vL aq rules,vI (ln rules),vI v3] (fun _ _ H96 hd => o_li (T:=tS) (E:=9) (zv:=vN) [vS ([0] ++ y93)] ([[0] ++ y93] : List Str) [gL []] H96 hd rfl (InnL.cons trivial InnL.nil)) fun g97 => ?_
      refine t_b 5 [1,2,3,4,5,6,7,12,16,17,18,19] [vI ba,vL aG aD,vP aW,vP bO,vP cI,vP cK,vP cJ,vP b16,vK g97 1,vL aq rules,vI (ln rules),vI v3] [] (t_end ?_)
      refine t_frz [0,1,2,3,4,5,6,7,8,9,10,11,12,13] ?_
      obtain ⟨uI,hz,hm⟩:=bindE hm
      refine t_cutg [1,2,3,4,5,6,7,12,17,18,19,16] (fun (nD : Gh) => [vI ba,vL aG aD,vP aW,vP bO,vP cI,vP cK,vP cJ,vP b16,vL aq rules,vI (ln rules),vI v3,vL nD uI.1]) (fun nD => [eI tS uI.1 nD,eI tS ([[0] ++ y93] : List Str) g97,eB b16 (e5 (gi rules v3) (aq.s (v3).toNat)),eI aJ rules aq,eI tS aD aG,eB aW [vI cj],eB bO [.map (some bd),vL g5 v4,vL g7 v6],Ent.mpi bd v9,eO 55 (Ty.sl tS) v4 g5,eO 69 am v6 g7,eB cI [.func (.func 27) ⟨[]⟩ ⟨[vP bO]⟩],eB cK [vI uI.2],eB cJ [.func (.func 30) ⟨[]⟩ ⟨[vP aW,vP bO,vP cI,vP cK,vP cJ]⟩],gE4,Ent.tab 0 (Lib.pow10Tab.map fun z => Value.int .u64 z)]) ?_ ?_
      ·replace hm:=hz
       refine t_r [1,2,3,4,5,6,7,12,16,17,18,19,66] [vI ba,vL aG aD,vP aW,vP bO,vP cI,vP cK,vP cJ,vP b16,vK g97 1,vL aq rules,vI (ln rules),vI v3,vB (decide (0 < (ln ((gi rules v3).aQ))))] [kb 1 10] ?_
       refine t_im hm (fun hm => ?c115) (fun hm => ?_)
       case c115 =>
        obtain ⟨ho106,hm⟩:=chkE hm
        refine t_w [1,2,3,4,5,6,7,12,16,17,18,19] [vI ba,vL aG aD,vP aW,vP bO,vP cI,vP cK,vP cJ,vP b16,.slice ((aq.s (v3).toNat 4).s ((0 : Int)).toNat 0).a ((gi ((gi rules v3).aQ) (0 : Int)).length) ((aq.s (v3).toNat 4).s ((0 : Int)).toNat 0).c,vL aq rules,vI (ln rules),vI v3] [kb 1 10,⟨none,fun _ => oka (aq.s (v3).toNat 4).a ∧ 0 ≤ (0 : Int) ∧ (0 : Int) < ln ((gi rules v3).aQ),fun _ hS => ((fC ((hS.im 2 rfl).el ho13)).oki ho106)⟩,⟨some (.slice ((aq.s (v3).toNat 4).s ((0 : Int)).toNat 0).a ((gi ((gi rules v3).aQ) (0 : Int)).length) ((aq.s (v3).toNat 4).s ((0 : Int)).toNat 0).c),fun wz => V.at1 ⟨ab (aq.s (v3).toNat 4).a,ao (aq.s (v3).toNat 4).a + ((0 : Int)).toNat * 1,none⟩ (.slice ((aq.s (v3).toNat 4).s ((0 : Int)).toNat 0).a ((gi ((gi rules v3).aQ) (0 : Int)).length) ((aq.s (v3).toNat 4).s ((0 : Int)).toNat 0).c) wz,fun _ hS => ((fC ((hS.im 2 rfl).el ho13)).at1 ho106 0 rfl)⟩] ?_
        obtain rfl:=someE hm
        intro _ _ H108 hS
        replace hS:=hS.addIm (sl_inn ((fC ((hS.im 2 rfl).el ho13)).el ho106))
        exact ⟨((aq.s (v3).toNat 4).s ((0 : Int)).toNat 0),FrG.keep (ks:=[1,2,3,4,5,6,7,12,17,18,19,16]) H108 (by kernel_rfl),hS⟩
       refine t_start ?_
       refine t_b 2 [1,2,3,4,5,6,7,12,16,17,18,19,72] [vI ba,vL aG aD,vP aW,vP bO,vP cI,vP cK,vP cJ,vP b16,vK g97 1,vL aq rules,vI (ln rules),vI v3,vI (w64 (v8 + 1))] [kb 10 0] ?_
       refine t_m0 [10] [0,1,2,3,4,5,6,7,8,9,11,12,13] [1,2,3,4,5,6,7,12,16,17,18,19] [vI ba,vL aG aD,vP aW,vP bO,vP cI,vP cK,vP cJ,vP b16,vK g97 1,vL aq rules,vI (ln rules),vI v3] (fun _ _ H111 hd => o_store [vI (w64 (v8 + 1))] H111 hd rfl rfl (by kernel_rfl) rfl rfl rfl) (t_end ?_)
       obtain rfl:=someE hm
       intro _ _ H113 hS
       replace hS:=hS.addIm (hS.im 1 rfl)
       replace hS:=hS.sel [0,2,3,4,5,6,7,8,9,10,11,1,12,13,14] rfl
       exact ⟨g97,FrG.keep (ks:=[1,2,3,4,5,6,7,12,17,18,19,16]) H113 (by kernel_rfl),hS⟩
      ·intro nD
       refine t_sel [0,2,3,4,5,6,7,8,9,10,11,12,13,14] (t_starts ?_)
       refine t_b 2 [1,2,3,4,5,6,7,12,17,18,19,73,74] [vI ba,vL aG aD,vP aW,vP bO,vP cI,vP cK,vP cJ,vP b16,vL aq rules,vI (ln rules),vI v3,vL aG aD,vL nD uI.1] [] ?_
       refine t_m [3,0] [0,1,2,3,4,5,6,7,8,9,10,11,12,13] [1,2,3,4,5,6,7,12,17,18,19] [vI ba,vL aG aD,vP aW,vP bO,vP cI,vP cK,vP cJ,vP b16,vL aq rules,vI (ln rules),vI v3] (fun _ _ H119 hd => o_li (T:=(Ty.sl tS)) (E:=55) (zv:=vO) [vL aG aD,vL nD uI.1] ([aD,uI.1] : List (List Str)) [gL [aG],gL [nD]] H119 hd rfl (InnL.cons (hd.im 0 rfl) (InnL.cons (hd.im 1 rfl) InnL.nil))) fun oy => ?_
       refine t_frz [0,1,2,3,4,5,6,7,8,9,10,11,12,13,14] ?_
       obtain ⟨y124,hy124,hm⟩:=bindE hm
       refine t_c [0] [0,1,2,3,4,5,6,7,8,9,10,11,12,13,14] [1,2,3,4,5,6,7,12,17,18,19] [vI ba,vL aG aD,vP aW,vP bO,vP cI,vP cK,vP cJ,vP b16,vL aq rules,vI (ln rules),vI v3] (fY (bE:=oy) m _ _ hy124) fun g125 => ?_
       refine t_b 5 [1,2,3,4,5,6,7,12,13,17,18,19] [vI ba,vL aG aD,vP aW,vP bO,vP cI,vP cK,vP cJ,vP b16,vL g125 y124,vL aq rules,vI (ln rules),vI v3] [] (t_end (t_sel [0,3,4,5,6,7,8,9,10,11,12,13,14,15] (t_start ?_)))
       refine t_b 2 [1,2,3,4,5,6,7,12,13,17,18,19,77,78] [vI ba,vL aG aD,vP aW,vP bO,vP cI,vP cK,vP cJ,vP b16,vL g125 y124,vL aq rules,vI (ln rules),vI v3,.func (.func 27) ⟨[]⟩ ⟨[vP bO]⟩,vL g125 y124] [kb 9 0] ?_
       refine t_frz [0,1,2,3,4,5,6,7,8,9,10,11,12,13] ?_
       obtain ⟨y133,hy133,hm⟩:=bindE hm
       refine t_c [0,5,6,7,8,13] [0,1,2,3,4,9,10,11,12,13] [1,2,3,4,5,6,7,12,13,17,18,19] [vI ba,vL aG aD,vP aW,vP bO,vP cI,vP cK,vP cJ,vP b16,vL g125 y124,vL aq rules,vI (ln rules),vI v3] (le (bU:=g125) (aW:=bO) (bu:=bd) (dc:=g5) (bp:=g7) m _ _ _ _ _ hy133) fun g134 => (t_end ?_)
       obtain rfl:=someE hm
       refine t_sel [4,1,5,6,7,8,0,3,2,9,10,11,12,13] ?_
       exact fun _ _ H137 hS => ⟨_,rfl,g125,g134,FrG.keep (ks:=[1,2,3,4,5,6,7,12,17,18,19,13]) H137 (by kernel_rfl),hS⟩
     replace hm:=bT hc hm
     obtain ⟨z55,hz,hm⟩:=bindE hm
     refine t_cutg [1,2,3,4,5,6,7,17,18,19] (fun (g88 : Gh) => [vI ba,vL aG aD,vP aW,vP bO,vP cI,vP cK,vP cJ,vL aq rules,vI (ln rules),vI v3]) (fun g88 => [eB b16 (e5 (gi rules v3) (aq.s (v3).toNat)),eI aJ rules aq,eI tS aD aG,eB aW [vI cj],eB bO [.map (some bd),vL g88 z55.2,vL g7 v6],Ent.mpi bd z55.1,eO 55 (Ty.sl tS) z55.2 g88,eO 69 am v6 g7,eB cI [.func (.func 27) ⟨[]⟩ ⟨[vP bO]⟩],eB cK [vI v8],eB cJ [.func (.func 30) ⟨[]⟩ ⟨[vP aW,vP bO,vP cI,vP cK,vP cJ]⟩],gE4,Ent.tab 0 (Lib.pow10Tab.map fun z => Value.int .u64 z)]) ?_ ?_
     ·replace hm:=hz
      refine t_r [1,2,3,4,5,6,7,17,18,19,44,45,46] [vI ba,vL aG aD,vP aW,vP bO,vP cI,vP cK,vP cJ,vL aq rules,vI (ln rules),vI v3,.slice (aq.s (v3).toNat 4).a (((gi rules v3).aQ).length) (aq.s (v3).toNat 4).c,vI (ln ((gi rules v3).aQ)),vI 0] [kb 0 10] (t_block ?_)
      intro _ _ H57 hS
      refine w_loop (fun kk a' w' => ∃ (v58 : Int) (v59 : List (List Str)) (v61 : Mi) (g60 : Gh),fX m rules aD v3 v6 kk v58 v59 v61 = some _ ∧ Fr 87 (fS [1,2,3,4,5,6,7,17,18,19,44,45,46] [vI ba,vL aG aD,vP aW,vP bO,vP cI,vP cK,vP cJ,vL aq rules,vI (ln rules),vI v3,.slice (aq.s (v3).toNat 4).a (((gi rules v3).aQ).length) (aq.s (v3).toNat 4).c,vI (ln ((gi rules v3).aQ)),vI v58]) a' ∧ SH M X w [eB b16 (e5 (gi rules v3) (aq.s (v3).toNat)),eI aJ rules aq,eI tS aD aG,eB aW [vI cj],eB bO [.map (some bd),vL g60 v59,vL g7 v6],Ent.mpi bd v61,eO 55 (Ty.sl tS) v59 g60,eO 69 am v6 g7,eB cI [.func (.func 27) ⟨[]⟩ ⟨[vP bO]⟩],eB cK [vI v8],eB cJ [.func (.func 30) ⟨[]⟩ ⟨[vP aW,vP bO,vP cI,vP cK,vP cJ]⟩],gE4,Ent.tab 0 (Lib.pow10Tab.map fun z => Value.int .u64 z)] w') ⟨_,0,v4,v9,g5,hm,FrG.keep (ks:=[1,2,3,4,5,6,7,17,18,19,44,45,46]) H57 (by kernel_rfl),hS⟩ ?_
      clear hm H57 hS
      rintro kk _ _ ⟨v58,v59,v61,g60,hm,H,hS⟩
      cases kk with
      | zero => exact noneE hm
      | succ kk =>
       rw [fX] at hm
       obtain ⟨x62,hx62,hm⟩:=letE hm
       refine t_in H hS ?_
       refine t_r [1,2,3,4,5,6,7,17,18,19,44,45,46,47] [vI ba,vL aG aD,vP aW,vP bO,vP cI,vP cK,vP cJ,vL aq rules,vI (ln rules),vI v3,.slice (aq.s (v3).toNat 4).a (((gi rules v3).aQ).length) (aq.s (v3).toNat 4).c,vI (ln ((gi rules v3).aQ)),vI v58,vB x62] [] ?_ (he:=by subst hx62; kernel_rfl)
       refine t_seq ?_
       refine t_im hm (fun hm => ?_) (fun hm => ?c86)
       case c86 =>
        refine t_exit ?_
        obtain rfl:=someE hm
        exact t_eg g60 [1,2,3,4,5,6,7,17,18,19]
       refine t_skip (t_seq (t_block ?_))
       obtain ⟨ho65,hm⟩:=chkE hm
       refine t_r [1,2,3,4,5,6,7,15,17,18,19,44,45,46] [vI ba,vL aG aD,vP aW,vP bO,vP cI,vP cK,vP cJ,.slice ((aq.s (v3).toNat 4).s (v58).toNat 0).a ((gi ((gi rules v3).aQ) v58).length) ((aq.s (v3).toNat 4).s (v58).toNat 0).c,vL aq rules,vI (ln rules),vI v3,.slice (aq.s (v3).toNat 4).a (((gi rules v3).aQ).length) (aq.s (v3).toNat 4).c,vI (ln ((gi rules v3).aQ)),vI v58] [⟨none,fun _ => oka (aq.s (v3).toNat 4).a ∧ 0 ≤ v58 ∧ v58 < ln ((gi rules v3).aQ),fun _ hS => ((fC ((hS.im 1 rfl).el ho13)).oki ho65)⟩,⟨some (.slice ((aq.s (v3).toNat 4).s (v58).toNat 0).a ((gi ((gi rules v3).aQ) v58).length) ((aq.s (v3).toNat 4).s (v58).toNat 0).c),fun wz => V.at1 ⟨ab (aq.s (v3).toNat 4).a,ao (aq.s (v3).toNat 4).a + (v58).toNat * 1,none⟩ (.slice ((aq.s (v3).toNat 4).s (v58).toNat 0).a ((gi ((gi rules v3).aQ) v58).length) ((aq.s (v3).toNat 4).s (v58).toNat 0).c) wz,fun _ hS => ((fC ((hS.im 1 rfl).el ho13)).at1 ho65 0 rfl)⟩] ?_
       obtain ⟨y72,hy72,hm⟩:=bindE hm
       obtain ⟨y75,hy75,hm⟩:=bindE hm
       intro _ _ H67 hS
       refine w_dS (base:=(fS [1,2,3,4,5,6,7,15,17,18,19,44,45,46] [vI ba,vL aG aD,vP aW,vP bO,vP cI,vP cK,vP cJ,.slice ((aq.s (v3).toNat 4).s (v58).toNat 0).a ((gi ((gi rules v3).aQ) v58).length) ((aq.s (v3).toNat 4).s (v58).toNat 0).c,vL aq rules,vI (ln rules),vI v3,.slice (aq.s (v3).toNat 4).a (((gi rules v3).aQ).length) (aq.s (v3).toNat 4).c,vI (ln ((gi rules v3).aQ)),vI v58])) (L:=[eB b16 (e5 (gi rules v3) (aq.s (v3).toNat)),eI aJ rules aq,eI tS aD aG,eB aW [vI cj],eB bO [.map (some bd),vL g60 v59,vL g7 v6],Ent.mpi bd v61,eO 55 (Ty.sl tS) v59 g60,eO 69 am v6 g7,eB cI [.func (.func 27) ⟨[]⟩ ⟨[vP bO]⟩],eB cK [vI v8],eB cJ [.func (.func 30) ⟨[]⟩ ⟨[vP aW,vP bO,vP cI,vP cK,vP cJ]⟩],gE4,Ent.tab 0 (Lib.pow10Tab.map fun z => Value.int .u64 z)]) 6 13 (fun yg68 => [.func (.func 27) ⟨[]⟩ ⟨[vP bO]⟩,vL aG aD,.slice ((aq.s (v3).toNat 4).s (v58).toNat 0).a ((gi ((gi rules v3).aQ) v58).length) ((aq.s (v3).toNat 4).s (v58).toNat 0).c,vK (yg68 3 0) 2,.slice (yg68 4 0).a y72.length (yg68 4 0).c,vW []]) (fun yg68 => [[],[],[],[eO 55 (Ty.sl tS) ([aD,(gi ((gi rules v3).aQ) v58)] : List (List Str)) (yg68 3 0),eI tS (gi ((gi rules v3).aQ) v58) ((aq.s (v3).toNat 4).s (v58).toNat 0)],[eO 9 tS y72 (yg68 4 0),eI (Ty.sl tS) ([aD,(gi ((gi rules v3).aQ) v58)] : List (List Str)) (yg68 3 0),eI tS (gi ((gi rules v3).aQ) v58) ((aq.s (v3).toNat 4).s (v58).toNat 0)],[eB bO [.map (some bd),.slice (yg68 5 0).a y75.1.length (yg68 5 0).c,vL g7 v6],eO 55 (Ty.sl tS) y75.1 (yg68 5 0),Ent.mpi bd y75.2,eI tS y72 (yg68 4 0),eI (Ty.sl tS) ([aD,(gi ((gi rules v3).aQ) v58)] : List (List Str)) (yg68 3 0),eI tS (gi ((gi rules v3).aQ) v58) ((aq.s (v3).toNat 4).s (v58).toNat 0)]]) [[10,11,12,13,14],[],[],[7,8],[3],[4,10,11,12,13,18]] [[],[],[],[],[3],[4,10,11,12]] [[0],[1],[2],[1,2,3],[1,2,3,4],[0,1,2,3,4,5]] [] (FrG.keep (ks:=[1,2,3,4,5,6,7,15,17,18,19,44,45,46]) H67 (by kernel_rfl)) (fun _ _ h => by cases h) (by kernel_rfl) hS (by kernel_rfl) rfl rfl (by kernel_rfl) (by kernel_rfl) (by kernel_rfl) (gd_none (by kernel_rfl) _ _) ?hstep_yg68 fun _ _ yg68 H79 hv hS => ?hK_yg68
       case hstep_yg68 =>
        refine ⟨(se (fun _ _ => [⟨some (.func (.func 27) ⟨[]⟩ ⟨[vP bO]⟩),rA cI 0 (.func (.func 27) ⟨[]⟩ ⟨[vP bO]⟩),fun _ hS => ((hS.bk 4 rfl).at1 rfl)⟩])),se0,se0,?_,?_,?_,trivial⟩
        ·intro o ho a w yg68 M Hb hv hO hS0
         obtain rfl:=someE ho
         have H:=((Hb).add (hv 1 (by decide) (by decide) 51 rfl)).add (hv 2 (by decide) (by decide) 52 rfl)
         have hS:=hS0
         replace hS:=hS.addIm (sl_inn ((fC ((hS.im 0 rfl).el ho13)).el ho65))
         have hd:=hS.hand [2,0] [0,1,2] rfl rfl
         refine Stp.mono (o_li (T:=(Ty.sl tS)) (E:=55) (zv:=vO) [vL aG aD,.slice ((aq.s (v3).toNat 4).s (v58).toNat 0).a ((gi ((gi rules v3).aQ) v58).length) ((aq.s (v3).toNat 4).s (v58).toNat 0).c] ([aD,(gi ((gi rules v3).aQ) v58)] : List (List Str)) [gL [aG],gL [((aq.s (v3).toNat 4).s (v58).toNat 0)]] H hd rfl (InnL.cons (hd.im 0 rfl) (InnL.cons (hd.im 1 rfl) InnL.nil))) ?_
         rintro v w2 hq
         obtain ⟨g69,rfl,hq⟩:=hq
         replace hS:=hS.join [2,0] [0,1,2] rfl rfl hq
         exact ⟨gL [g69],fun _ _ => rfl,hS.sel [0,1,2,3] rfl⟩
        ·intro o ho a w yg68 M Hb hv hO hS0
         obtain rfl:=someE ho
         have H:=(Hb).add (hv 3 (by decide) (by decide) 53 rfl)
         have hS:=hS0
         replace hS:=SH.frz1 (hS.sel [0,1] rfl)
         have hd:=hS.hand [0] [0,1] rfl rfl
         refine Stp.mono (o_callx H rfl rfl (fY (bE:=(yg68 3 0)) m _ _ hy72 _ _ hd)) ?_
         rintro v w2 hq
         obtain ⟨g73,rfl,hq⟩:=hq
         replace hS:=hS.join [0] [0,1] rfl rfl hq
         exact ⟨gL [g73],fun _ _ => rfl,hS.sel [0,1,2] rfl⟩
        ·intro o ho a w yg68 M Hb hv hO hS0
         obtain rfl:=someE ho
         have H:=((Hb).add (hv 0 (by decide) (by decide) 50 rfl)).add (hv 4 (by decide) (by decide) 54 rfl)
         have hS:=hS0
         replace hS:=SH.frz1 (hS.sel [0,1,2,3,4,5,6,7] rfl)
         have hd:=hS.hand [0,3,4,5,6,7] [0,1,2,7] rfl rfl
         refine Stp.mono (o_callx H rfl rfl (le (bU:=(yg68 4 0)) (aW:=bO) (bu:=bd) (dc:=g60) (bp:=g7) m _ _ _ _ _ hy75 _ _ hd)) ?_
         rintro v w2 hq
         obtain ⟨g76,rfl,hq⟩:=hq
         replace hS:=hS.join [0,3,4,5,6,7] [0,1,2,7] rfl rfl hq
         exact ⟨gL [g76],fun _ _ => rfl,hS.sel [0,1,3,4,5,6,2,7] rfl⟩
       have H80 : Fr 87 (fS [1,2,3,4,5,6,7,17,18,19,44,45,46] [vI ba,vL aG aD,vP aW,vP bO,vP cI,vP cK,vP cJ,vL aq rules,vI (ln rules),vI v3,.slice (aq.s (v3).toNat 4).a (((gi rules v3).aQ).length) (aq.s (v3).toNat 4).c,vI (ln ((gi rules v3).aQ)),vI v58]) _:=(FrG.keep (ks:=[1,2,3,4,5,6,7,17,18,19,44,45,46]) H79 (by kernel_rfl))
       replace hS : SH M X w [eB bO [.map (some bd),.slice (yg68 5 0).a y75.1.length (yg68 5 0).c,vL g7 v6],eO 55 (Ty.sl tS) y75.1 (yg68 5 0),Ent.mpi bd y75.2,eI tS y72 (yg68 4 0),eI (Ty.sl tS) ([aD,(gi ((gi rules v3).aQ) v58)] : List (List Str)) (yg68 3 0),eI tS (gi ((gi rules v3).aQ) v58) ((aq.s (v3).toNat 4).s (v58).toNat 0),eB b16 (e5 (gi rules v3) (aq.s (v3).toNat)),eI aJ rules aq,eI tS aD aG,eB aW [vI cj],eO 69 am v6 g7,eB cI [.func (.func 27) ⟨[]⟩ ⟨[vP bO]⟩],eB cK [vI v8],eB cJ [.func (.func 30) ⟨[]⟩ ⟨[vP aW,vP bO,vP cI,vP cK,vP cJ]⟩],gE4,Ent.tab 0 (Lib.pow10Tab.map fun z => Value.int .u64 z)] _:=hS
       clear hv H79
       generalize yg68 5 0 = g81 at H80 hS
       generalize yg68 4 0 = g82 at H80 hS
       generalize yg68 3 0 = g83 at H80 hS
       replace hS:=hS.sel [0,1,2,6,7,8,9,10,11,12,13,14,15] rfl
       refine t_in H80 hS ?_
       refine t_w [1,2,3,4,5,6,7,17,18,19,44,45,46] [vI ba,vL aG aD,vP aW,vP bO,vP cI,vP cK,vP cJ,vL aq rules,vI (ln rules),vI v3,.slice (aq.s (v3).toNat 4).a (((gi rules v3).aQ).length) (aq.s (v3).toNat 4).c,vI (ln ((gi rules v3).aQ)),vI (w64 (v58 + 1))] [] (t_sel [3,4,5,6,0,2,1,7,8,9,10,11,12] ?_)
       exact fun _ _ H85 hS => ⟨_,Nat.lt_succ_self _,w64 (v58 + 1),y75.1,y75.2,g81,hm,FrG.keep (ks:=[1,2,3,4,5,6,7,17,18,19,44,45,46]) H85 (by kernel_rfl),hS⟩
     ·intro g88
      refine t_exit ?_
      obtain ⟨r89,hr_r89,hm⟩:=bindE hm
      obtain rfl:=someE hm
      have hm:=hm_z26
      obtain rfl:=someE hm
      have hm:=hr_r89
      intro _ _ H hS
      clear hr_r89
      obtain rfl:=someE hm
      replace hS:=hS.sel [7,6,1,2,3,4,5,8,9,10,11,12] rfl
      exact ⟨g7,g88,g7,g88,FrG.keep (ks:=[1,2,3,4,5,6,7,17,18,19]) H (by kernel_rfl),hS⟩
    ·rintro _ _ ⟨s_z26,hz,wq,ww,H,hS⟩
     subst hz
     replace hm:=sumR hm_z26
     refine t_in H hS (t_start ?_)
     refine t_b 5 [1,2,3,4,5,6,7,17,18,19,80,82,83,84] [vI ba,vL aG aD,vP aW,vP bO,vP cI,vP cK,vP cJ,vL aq rules,vI (ln rules),vI v3,.func (.func 30) ⟨[]⟩ ⟨[vP aW,vP bO,vP cI,vP cK,vP cJ]⟩,.slice (aq.s (v3).toNat 5).a (((gi rules v3).aF).length) (aq.s (v3).toNat 5).c,vI ba,vL wq s_z26.1] [kb 11 0,kb 2 11] ?_
     intro _ _ H148 hS
     replace hS:=hS.addIm (jV ((hS.im 3 rfl).el ho13))
     obtain ⟨y150,hy150,hm⟩:=bindE hm
     have hd:=hS.hand [0,1,6,7,8,2,9,10,11,12,13,14] [0,1,3,4,5,13,14] rfl rfl
     refine m_stp [85,1,2,3,4,5,6,7,17,18,19] (fS [1,2,3,4,5,6,7,17,18,19] [vI ba,vL aG aD,vP aW,vP bO,vP cI,vP cK,vP cJ,vL aq rules,vI (ln rules),vI v3]) H148 rfl rfl rfl rfl (o_callx H148 rfl rfl (⟨Tryz.call30 _,ih ((aq.s (v3).toNat 5)) (wq) (aW) (bO) (bd) (ww) (g7) (cI) (cK) (cJ) _ _ _ _ _ _ _ _ _ _ hy150 _ hd⟩ : DoesX _ _ _ _ _)) (fun _ => rfl) fun _ _ v H156 hq => ?_
     obtain ⟨g151,g153,rfl,hq⟩:=hq
     replace hS:=hS.join [0,1,6,7,8,2,9,10,11,12,13,14] [0,1,3,4,5,13,14] rfl rfl hq
     refine t_in H156 hS (t_end (t_sel [0,1,2,3,4,5,6,7,11,12,13,14] ?_))
     obtain rfl:=someE hm
     refine t_sel [3,2,8,9,0,1,4,5,6,7,10,11] ?_
     exact fun _ _ H156 hS => ⟨g153,g151,g7,g5,FrG.keep (ks:=[1,2,3,4,5,6,7,17,18,19]) H156 (by kernel_rfl),hS⟩
   ·rintro _ _ ⟨wy,wu,wM,wP,H,hS⟩
    refine t_in H hS ?_
    refine t_w [1,2,3,4,5,6,7,17,18,19] [vI ba,vL aG aD,vP aW,vP bO,vP cI,vP cK,vP cJ,vL aq rules,vI (ln rules),vI (w64 (v3 + 1))] [] (t_sel [2,3,4,5,6,1,0,7,8,9,10,11] ?_)
    exact fun _ _ H166 hS => ⟨_,Nat.lt_succ_self _,w64 (v3 + 1),z12.2.1,z12.1,z12.2.2.1,z12.2.2.2.2.1,wu,wy,hm,FrG.keep (ks:=[1,2,3,4,5,6,7,17,18,19]) H166 (by kernel_rfl),hS⟩
def nn (m : Nat) (rules : List aS) (ba : Int) (aD : List Str) (cj : Int) (fm : Mi) (de : List (List Str)) (cE : List aw) (u3 : Int) : Option ((List (List Str)) × (List aw) × Mi × Int):=fj m  m rules ba aD cj fm de cE u3
theorem oY {aq : Gh} {aG : Gh} {aW : Nat} {bO : Nat} {bd : Nat} {cZ : Gh} {cv : Gh} {cI : Nat} {cK : Nat} {cJ : Nat} (m : Nat) (rules : List aS) (ba : Int) (aD : List Str) (cj : Int) (fm : Mi) (de : List (List Str)) (cE : List aw) (u3 : Int) (r : (List (List Str)) × (List aw) × Mi × Int) (hm : nn m rules ba aD cj fm de cE u3 = some r) (M : Av) (w : World) (hS : S0 M [eI aJ rules aq,eI tS aD aG,eB aW [vI cj],eB bO [.map (some bd),vL cZ de,vL cv cE],Ent.mpi bd fm,eO 55 (Ty.sl tS) de cZ,eO 69 am cE cv,eB cI [.func (.func 27) ⟨[]⟩ ⟨[vP bO]⟩],eB cK [vI u3],eB cJ [.func (.func 30) ⟨[]⟩ ⟨[vP aW,vP bO,vP cI,vP cK,vP cJ]⟩],gE4,Ent.tab 0 (Lib.pow10Tab.map fun z => Value.int .u64 z)] w) : DoesX Tryz.prog 30 ⟨[vL aq rules,vI ba,vL aG aD,vP aW,vP bO,vP cI,vP cK,vP cJ]⟩ w (fun v w' => ∃ (aA : Gh) (cY : Gh),v = vW [] ∧ SH M (fpl [eI aJ rules aq,eI tS aD aG,eB aW [vI cj],eB bO [.map (some bd),vL cZ de,vL cv cE],Ent.mpi bd fm,eO 55 (Ty.sl tS) de cZ,eO 69 am cE cv,eB cI [.func (.func 27) ⟨[]⟩ ⟨[vP bO]⟩],eB cK [vI u3],eB cJ [.func (.func 30) ⟨[]⟩ ⟨[vP aW,vP bO,vP cI,vP cK,vP cJ]⟩],gE4,Ent.tab 0 (Lib.pow10Tab.map fun z => Value.int .u64 z)]) w [eB aW [vI cj],eB bO [.map (some bd),vL aA r.1,vL cY r.2.1],eO 55 (Ty.sl tS) r.1 aA,eO 69 am r.2.1 cY,Ent.mpi bd r.2.2.1,eB cI [.func (.func 27) ⟨[]⟩ ⟨[vP bO]⟩],eB cK [vI r.2.2.2],eB cJ [.func (.func 30) ⟨[]⟩ ⟨[vP aW,vP bO,vP cI,vP cK,vP cJ]⟩]] w'):=⟨Tryz.call30 _,pg m   m aq aG aW bO bd cZ cv cI cK cJ M rules ba aD cj fm de cE u3 r hm w hS⟩

def gN (m : Nat) (l_ : List bM) (e_ : iu) (bv : Int) : Nat → Int → Int → (List (List Str)) → (List aw) → Mi → Option (Int × (List (List Str)) × (List aw) × Mi)
  | 0,_,_,_,_,_ => none
  | kk + 1,v41,v42,v43,v45,v47 =>
    cond (decide (v41 < (ln l_))) (
    Option.bind (
    chk (0 ≤ v41 ∧ v41 < ln l_) <|
    cond (((gi l_ v41).ed) == bv) (
    Option.bind (nn m ((gi l_ v41).bj.aF) v41 [] e_.ct v47 v43 v45 v42) fun y67 =>
    some (y67.2.2.2,y67.1,y67.2.1,y67.2.2.1)) (
    some (v42,v43,v45,v47))) fun (z50 : Int × (List (List Str)) × (List aw) × Mi) =>
    gN m l_ e_ bv kk (w64 (v41 + 1)) z50.1 z50.2.1 z50.2.2.1 z50.2.2.2) (
    some (v42,v43,v45,v47))
def i7 (m : Nat) (l_ : List bM) (e_ : iu) (bv : Int) : Option (Mi × (List (List Str)) × (List aw)) :=
  Option.bind (
  gN m l_ e_ bv m 0 0 ([] : List (List Str)) ([] : List aw) ([] : Mi)) fun (z36 : Int × (List (List Str)) × (List aw) × Mi) =>
  some (z36.2.2.2,z36.2.1,z36.2.2.1)
end Go.Proofs.YtebkjhhhdgbloaaGreatDoor
