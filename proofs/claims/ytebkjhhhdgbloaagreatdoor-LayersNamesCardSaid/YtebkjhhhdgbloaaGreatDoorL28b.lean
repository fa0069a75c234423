/-
  What the Go functions compute, as Lean functions, and that a call returns just that. Printed by a program.
-/
import Derived.Test.YtebkjhhhdgbloaaGreatDoorRows
import Derived.Test.YtebkjhhhdgbloaaGreatDoorX
import Derived.Test.YtebkjhhhdgbloaaGreatDoorMP
import Derived.Test.YtebkjhhhdgbloaaGreatDoorCO
import Derived.Test.YtebkjhhhdgbloaaGreatDoorAF
import Derived.Test.YtebkjhhhdgbloaaGreatDoorT
import Derived.Test.YtebkjhhhdgbloaaGreatDoorMI
import Derived.Test.YtebkjhhhdgbloaaGreatDoorFM
import Derived.Test.YtebkjhhhdgbloaaGreatDoorGR
import Derived.Test.YtebkjhhhdgbloaaGreatDoorI
import Derived.Test.YtebkjhhhdgbloaaGreatDoorL28a
set_option linter.unusedVariables false
set_option maxRecDepth 20000
set_option maxHeartbeats 4000000
namespace Go.Proofs.YtebkjhhhdgbloaaGreatDoor
open Go.V Go.RowKit

theorem wa (m : Nat) : ∀ (k : Nat),py (iQ m  k):=by
 intro k
 induction k with
 | zero => intro af M v_ r hm; exact noneE hm
 | succ k ih =>
  intro af M v_ r hm w hS
  rw [iQ] at hm
  have hS0 : SH M (fpl [eI a6 v_ af]) w [eI a6 v_ af] w:=hS
  generalize hX : fpl [eI a6 v_ af] = X at hS0 ⊢
  clear hS hX
  have hS:=hS0
  clear hS0
  refine calls_entryP Tryz.func117 rfl Tryz.ntmps117 rfl fun _ H => ?_
  refine t_in H hS (t_starts ?_)
  refine t_m [] [0] [0] [vL af v_] (fun _ _ H hd => o_alloc [vU 0,vN,vI 0,vN,vO,vF,vO] (z:=vG [vU 0,vN,vI 0,vN,vO,vF,vO]) hd (by kernel_rfl) rfl) fun b1 => ?_
  refine t_b 2 [0,2] [vL af v_,vP b1] [] (t_end (t_starts ?_))
  refine t_b 1 [2,14] [vP b1,vL af v_] [] ?_
  obtain ⟨y8,hy8,hm⟩:=bindE hm
  refine t_c [1] [0,1] [2] [vP b1] (dD (af:=af) m _ _ hy8) fun g9 => ?_
  refine t_b 3 [0,2] [vL g9 y8,vP b1] [] (t_end (t_sel [0,1] (t_seq ?_)))
  obtain ⟨y15,hy15,hm⟩:=bindE hm
  refine t_r [0,2,17] [vL g9 y8,vP b1,vB y15] [kr fun _ hS => fP (af:=g9) m _ _ _ _ hy15 _ (s0im s0nil (hS.im 0 rfl))] ?_
  refine t_im hm (fun hm => ?c168) (fun hm => ?_)
  case c168 =>
   obtain ⟨y18,hy18,hm⟩:=bindE hm
   refine t_r [0,2,4] [vL g9 y8,vP b1,vI y18] [kr fun _ hS => ep (af:=g9) m _ _ _ hy18 _ (s0im s0nil (hS.im 0 rfl))] (t_starts ?_)
   refine t_b 2 [0,2,4,21,22] [vL g9 y8,vP b1,vI y18,vL g9 y8,vI y18] [] ?_
   obtain ⟨y23,hy23,hm⟩:=bindE hm
   intro _ _ H22 hS
   have hd:=hS.hand [0] [0,1] rfl rfl
   refine m_stp [23,0,2,4] (fS [0,2,4] [vL g9 y8,vP b1,vI y18]) H22 rfl rfl rfl rfl (o_callx H22 rfl rfl (mQ (af:=g9) m _ ih _ _ _ hy23 _ _ hd)) (fun _ => rfl) fun _ _ v H29 hq => ?_
   obtain ⟨g24,g26,rfl,hq⟩:=hq
   replace hS:=hS.join [0] [0,1] rfl rfl hq
   refine t_in H29 hS ?_
   refine t_b 6 [0,2,4,24,25] [vL g9 y8,vP b1,vI y18,.agg ⟨e4 y23.1 (gL [g24,g26])⟩,vB y23.2] [] ?_
   refine t_m [] [0,1,2,3] [0,2,4,24,25] [vL g9 y8,vP b1,vI y18,.agg ⟨e4 y23.1 (gL [g24,g26])⟩,vB y23.2] (fun _ _ H31 hd => o_alloc [vU 0,vN,vI 0,vN,vO,vF,vO] (z:=vG [vU 0,vN,vI 0,vN,vO,vF,vO]) hd (by kernel_rfl) rfl) fun b32 => ?_
   refine t_m0 [0] [1,2,3,4] [0,2,4,5,25] [vL g9 y8,vP b1,vI y18,vP b32,vB y23.2] (fun _ _ H34 hd => o_store (e4 y23.1 (gL [g24,g26])) H34 hd rfl rfl (by kernel_rfl) rfl rfl rfl) ?_
   refine t_b 9 [0,2,4,5,6] [vL g9 y8,vP b1,vI y18,vP b32,vB y23.2] [] (t_end (t_starts ?_))
   refine t_b 1 [0,2,4,6,26] [vL g9 y8,vP b1,vI y18,vB y23.2,.agg ⟨e4 y23.1 (gL [g24,g26])⟩] [kE 0 7] ?_
   refine t_frz [2,0,1,3,4] ?_
   refine t_m [2,0] [0,1,2,3,4] [0,2,4,6] [vL g9 y8,vP b1,vI y18,vB y23.2] (fun _ _ H40 hd => o_li (T:=ak) (E:=39) (zv:=vG [vU 0,vN,vI 0,vN,vO,vF,vO]) (e4 y23.1 (gL [g24,g26])) ([y23.1] : List ay) [gL [g24,g26]] H40 hd rfl (InnL.cons (iX (hd.im 0 rfl) (hd.im 1 rfl)) InnL.nil)) fun g41 => ?_
   obtain ⟨x45,hx45,hm⟩:=letE hm
   refine t_b 15 [2,28,40] [vP b1,vG [vU 3,vN,vI 0,vN,vO,vF,vK g41 1],vB x45] [] ?_ (he:=by subst hx45; kernel_rfl)
   refine t_m0 [5] [0,1,2,3,4] [2,40] [vP b1,vB x45] (fun _ _ H47 hd => o_store [vU 3,vN,vI 0,vN,vO,vF,vK g41 1] H47 hd rfl rfl (by kernel_rfl) rfl rfl rfl) ?_
   refine t_b 17 [2,3] [vP b1,vB x45] [] (t_end (t_sel [0,1] (t_ret ?_)))
   obtain rfl:=someE hm
   refine t_nil 137 a6 ?_
   refine t_frz [0,1,2] ?_
   exact fun _ _ H51 hS => retR2 H51 rfl (oneRes_agg rfl (hS.bk 1 rfl) Tryz.underlying39 rfl (by kernel_rfl)) rfl ⟨_,rfl,Gh.nil,g41,rfl,(hS.sel [0,2] rfl)⟩
  refine t_skip (t_starts ?_)
  refine t_b 1 [0,2,42] [vL g9 y8,vP b1,vL g9 y8] [] ?_
  obtain ⟨y55,hy55,hm⟩:=bindE hm
  intro _ _ H54 hS
  have hd:=hS.hand [0] [0,1] rfl rfl
  refine m_stp [43,0,2] (fS [0,2] [vL g9 y8,vP b1]) H54 rfl rfl rfl rfl (o_callx H54 rfl rfl (mQ (af:=g9) m _ ih _ _ _ hy55 _ _ hd)) (fun _ => rfl) fun _ _ v H61 hq => ?_
  obtain ⟨g56,g58,rfl,hq⟩:=hq
  replace hS:=hS.join [0] [0,1] rfl rfl hq
  refine t_in H61 hS ?_
  refine t_b 5 [0,2,44,45] [vL g9 y8,vP b1,.agg ⟨e4 y55.1 (gL [g56,g58])⟩,vB y55.2] [] ?_
  refine t_m [] [0,1,2,3] [0,2,44,45] [vL g9 y8,vP b1,.agg ⟨e4 y55.1 (gL [g56,g58])⟩,vB y55.2] (fun _ _ H63 hd => o_alloc [vU 0,vN,vI 0,vN,vO,vF,vO] (z:=vG [vU 0,vN,vI 0,vN,vO,vF,vO]) hd (by kernel_rfl) rfl) fun b64 => ?_
  refine t_m0 [0] [1,2,3,4] [0,2,7,45] [vL g9 y8,vP b1,vP b64,vB y55.2] (fun _ _ H66 hd => o_store (e4 y55.1 (gL [g56,g58])) H66 hd rfl rfl (by kernel_rfl) rfl rfl rfl) ?_
  refine t_b 8 [0,2,7,8] [vL g9 y8,vP b1,vP b64,vB y55.2] [] (t_end (t_seq ?_))
  refine t_r [0,2,7,8,52] [vL g9 y8,vP b1,vP b64,vB y55.2,vB (cond (!y55.2) true ((ln y8) == 1))] [] ?_
  refine t_im hm (fun hm => ?c167) (fun hm => ?_)
  case c167 =>
   refine t_starts ?_
   refine t_b 2 [2,53,54] [vP b1,.agg ⟨e4 y55.1 (gL [g56,g58])⟩,vB y55.2] [kE 0 7] ?_
   refine t_m0 [4] [0,1,2,3] [2,54] [vP b1,vB y55.2] (fun _ _ H74 hd => o_store (e4 y55.1 (gL [g56,g58])) H74 hd rfl rfl (by kernel_rfl) rfl rfl rfl) ?_
   refine t_b 4 [2,3] [vP b1,vB y55.2] [] (t_end (t_sel [0,2,3] (t_ret ?_)))
   obtain rfl:=someE hm
   exact fun _ _ H78 hS => retR2 H78 rfl (oneRes_agg rfl (hS.bk 0 rfl) Tryz.underlying39 rfl (by kernel_rfl)) rfl ⟨_,rfl,g56,g58,rfl,(hS.sel [1,2] rfl)⟩
  refine t_skip (t_starts ?_)
  refine t_b 1 [0,2,55] [vL g9 y8,vP b1,.agg ⟨e4 y55.1 (gL [g56,g58])⟩] [kE 0 7] ?_
  refine t_frz [2,0,1,3,4] ?_
  refine t_m [2,0] [0,1,2,3,4] [0,2] [vL g9 y8,vP b1] (fun _ _ H80 hd => o_li (T:=ak) (E:=39) (zv:=vG [vU 0,vN,vI 0,vN,vO,vF,vO]) (e4 y55.1 (gL [g56,g58])) ([y55.1] : List ay) [gL [g56,g58]] H80 hd rfl (InnL.cons (iX (hd.im 0 rfl) (hd.im 1 rfl)) InnL.nil)) fun g81 => ?_
  refine t_b 3 [0,2,57] [vL g9 y8,vP b1,vG [vU 1,vN,vI 0,vN,vO,vF,vK g81 1]] [] ?_
  refine t_m [] [0,1,2,3,4,5] [0,2,57] [vL g9 y8,vP b1,vG [vU 1,vN,vI 0,vN,vO,vF,vK g81 1]] (fun _ _ H86 hd => o_alloc [vU 0,vN,vI 0,vN,vO,vF,vO] (z:=vG [vU 0,vN,vI 0,vN,vO,vF,vO]) hd (by kernel_rfl) rfl) fun b87 => ?_
  refine t_m0 [0] [1,2,3,4,5,6] [0,2,9] [vL g9 y8,vP b1,vP b87] (fun _ _ H89 hd => o_store [vU 1,vN,vI 0,vN,vO,vF,vK g81 1] H89 hd rfl rfl (by kernel_rfl) rfl rfl rfl) (t_end (t_sel [0,1,5,6] (t_seq ?_)))
  obtain ⟨y92,hy92,hm⟩:=bindE hm
  obtain ⟨y93,hy93,hm⟩:=bindE hm
  refine t_r [0,2,9,61] [vL g9 y8,vP b1,vP b87,vB y93] [kr fun _ hS => ep (af:=g9) m _ _ _ hy92 _ (s0im s0nil (hS.im 2 rfl)),kr fun _ hS => fP (af:=g9) m _ _ _ _ hy93 _ (s0im s0nil (hS.im 2 rfl))] ?_
  refine t_i2 hm (fun hm => ?_)
  refine t_skip ?_
  obtain ⟨z96,hz,hm⟩:=bindE hm
  refine t_cutg [2,9] (fun (ua : Gh) => [vP b1,vP b87]) (fun ua => [eB b87 [vU 1,vN,vI 0,vN,vO,vF,vL ua z96],eO 39 ak z96 ua,eI a6 y8 g9,eB b1 [vU 0,vN,vI 0,vN,vO,vF,vO]]) ?_ ?_
  ·replace hm:=hz
   refine t_r [0,2,9,10] [vL g9 y8,vP b1,vP b87,vI 1] [] (t_block ?_)
   intro _ _ H98 hS
   refine w_loop (fun kk a' w' => ∃ (v99 : Int) (sV : List ay) (qA : Gh),mt m y8 (iQ m k) kk v99 sV = some _ ∧ Fr 124 (fS [0,2,9,10] [vL g9 y8,vP b1,vP b87,vI v99]) a' ∧ SH M X w [eB b87 [vU 1,vN,vI 0,vN,vO,vF,vL qA sV],eO 39 ak sV qA,eI a6 y8 g9,eB b1 [vU 0,vN,vI 0,vN,vO,vF,vO]] w') ⟨_,1,([y55.1] : List ay),g81,hm,FrG.keep (ks:=[0,2,9,10]) H98 (by kernel_rfl),hS⟩ ?_
   clear hm H98 hS
   rintro kk _ _ ⟨v99,sV,qA,hm,H,hS⟩
   cases kk with
   | zero => exact noneE hm
   | succ kk =>
    rw [mt] at hm
    refine t_in H hS (t_seq ?_)
    refine t_r [0,2,9,10,66] [vL g9 y8,vP b1,vP b87,vI v99,vB (decide (v99 < (ln y8)))] [] ?_
    refine t_im hm (fun hm => ?_) (fun hm => ?c155)
    case c155 =>
     refine t_exit ?_
     obtain rfl:=someE hm
     exact t_eg qA [2,9]
    refine t_skip (t_seq (t_block ?_))
    obtain ⟨y104,hy104,hm⟩:=bindE hm
    refine t_r [0,2,9,10,11] [vL g9 y8,vP b1,vP b87,vI v99,vI y104] [kr fun _ hS => ep (af:=g9) m _ _ _ hy104 _ (s0im s0nil (hS.im 2 rfl))] (t_seq ?_)
    obtain ⟨y107,hy107,hm⟩:=bindE hm
    obtain ⟨y108,hy108,hm⟩:=bindE hm
    obtain ⟨x109,hx109,hm⟩:=letE hm
    refine t_r [0,2,9,11,96] [vL g9 y8,vP b1,vP b87,vI y104,vB x109] [kgb ((y104 == v99) = false ∧ True) 0 0,kgr (true = true ∧ (y104 == v99) = false ∧ True) fun _ hS hg => fP (af:=g9) m _ _ _ _ (bF (hg.2.1) hy107) _ (s0im s0nil (hS.im 2 rfl)),kgb ((cond (y104 == v99) true (!y107)) = false ∧ True) 0 0,kgr (false = true ∧ (cond (y104 == v99) true (!y107)) = false ∧ True) fun _ hS hg => fP (af:=g9) m _ _ _ _ (bF (hg.2.1) hy108) _ (s0im s0nil (hS.im 2 rfl))] ?_ (he:=by subst hx109; kernel_rfl)
    refine t_i2 hm (fun hm => ?_)
    refine t_skip ?_
    obtain ⟨y112,hy112,hm⟩:=bindE hm
    refine t_r [0,2,9,10,11] [vL g9 y8,vP b1,vP b87,vI y112,vI y104] [kr fun _ hS => ep (af:=g9) m _ _ _ hy112 _ (s0im s0nil (hS.im 2 rfl))] (t_starts ?_)
    refine t_b 2 [0,2,9,10,11,103,104] [vL g9 y8,vP b1,vP b87,vI y112,vI y104,vL g9 y8,vI y112] [] ?_
    obtain ⟨y117,hy117,hm⟩:=bindE hm
    intro _ _ H116 hS
    have hd:=hS.hand [2] [0,1,2,3] rfl rfl
    refine m_stp [105,0,2,9,10,11] (fS [0,2,9,10,11] [vL g9 y8,vP b1,vP b87,vI y112,vI y104]) H116 rfl rfl rfl rfl (o_callx H116 rfl rfl (mQ (af:=g9) m _ ih _ _ _ hy117 _ _ hd)) (fun _ => rfl) fun _ _ v H123 hq => ?_
    obtain ⟨g118,oy,rfl,hq⟩:=hq
    replace hS:=hS.join [2] [0,1,2,3] rfl rfl hq
    refine t_in H123 hS ?_
    refine t_b 6 [0,2,9,10,11,106,107] [vL g9 y8,vP b1,vP b87,vI y112,vI y104,.agg ⟨e4 y117.1 (gL [g118,oy])⟩,vB y117.2] [] ?_
    refine t_m [] [0,1,2,3,4,5] [0,2,9,10,11,106,107] [vL g9 y8,vP b1,vP b87,vI y112,vI y104,.agg ⟨e4 y117.1 (gL [g118,oy])⟩,vB y117.2] (fun _ _ H125 hd => o_alloc [vU 0,vN,vI 0,vN,vO,vF,vO] (z:=vG [vU 0,vN,vI 0,vN,vO,vF,vO]) hd (by kernel_rfl) rfl) fun b126 => ?_
    refine t_m0 [0] [1,2,3,4,5,6] [0,2,9,10,11,12,107] [vL g9 y8,vP b1,vP b87,vI y112,vI y104,vP b126,vB y117.2] (fun _ _ H128 hd => o_store (e4 y117.1 (gL [g118,oy])) H128 hd rfl rfl (by kernel_rfl) rfl rfl rfl) ?_
    refine t_b 9 [0,2,9,10,11,12,13] [vL g9 y8,vP b1,vP b87,vI y112,vI y104,vP b126,vB y117.2] [] (t_end (t_seq ?_))
    obtain ⟨x133,hx133,hm⟩:=letE hm
    refine t_r [0,2,9,10,12,115] [vL g9 y8,vP b1,vP b87,vI y112,vP b126,vB x133] [] ?_ (he:=by subst hx133; kernel_rfl)
    refine t_i2 hm (fun hm => ?_)
    refine t_skip (t_start ?_)
    refine t_b 3 [0,2,9,10,118,119] [vL g9 y8,vP b1,vP b87,vI y112,vL qA sV,.agg ⟨e4 y117.1 (gL [g118,oy])⟩] [kb 3 6,kE 0 7] ?_
    refine t_frz [2,0,1,3,4,5,6] ?_
    refine t_m [2,0] [0,1,2,3,4,5,6] [0,2,9,10,118] [vL g9 y8,vP b1,vP b87,vI y112,vL qA sV] (fun _ _ H137 hd => o_li (T:=ak) (E:=39) (zv:=vG [vU 0,vN,vI 0,vN,vO,vF,vO]) (e4 y117.1 (gL [g118,oy])) ([y117.1] : List ay) [gL [g118,oy]] H137 hd rfl (InnL.cons (iX (hd.im 0 rfl) (hd.im 1 rfl)) InnL.nil)) fun g138 => ?_
    obtain ⟨ho142,hm⟩:=chkE hm
    obtain ⟨q143,hq143,hm⟩:=letE hm
    refine t_m [5,0] [1,2,3,4,6,7] [0,2,9,10] [vL g9 y8,vP b1,vP b87,vI y112] (fun _ _ H141 hd => o_app2 (T:=ak) (zv:=vG [vU 0,vN,vI 0,vN,vO,vF,vO]) (g1:=qA) (g2:=g138) (l1:=sV) (l2:=([y117.1] : List ay)) q143 hq143.symm H141 hd rfl rfl rfl rfl rfl rfl rfl (by kernel_rfl) (by kernel_rfl) rfl rfl ho142) fun g146 => ?_
    refine t_b 6 [0,2,9,10,121,122] [vL g9 y8,vP b1,vP b87,vI y112,vL g146 q143,vA b87 6] [] ?_
    refine t_m0 [5] [0,1,2,3,4,6,7] [0,2,9,10] [vL g9 y8,vP b1,vP b87,vI y112] (fun _ _ H148 hd => o_store [vU 1,vN,vI 0,vN,vO,vF,vL g146 q143] H148 hd rfl rfl (by kernel_rfl) rfl rfl rfl) (t_end (t_sel [0,1,6,7] ?_))
    refine t_w [0,2,9,10] [vL g9 y8,vP b1,vP b87,vI (w64 (y112 + 1))] [] ?_
    exact fun _ _ H152 hS => ⟨_,Nat.lt_succ_self _,w64 (y112 + 1),q143,g146,hm,FrG.keep (ks:=[0,2,9,10]) H152 (by kernel_rfl),hS⟩
  ·intro ua
   refine t_sel [0,1,3] (t_starts ?_)
   refine t_b 1 [2,123] [vP b1,vG [vU 1,vN,vI 0,vN,vO,vF,vL ua z96]] [⟨some (vG [vU 1,vN,vI 0,vN,vO,vF,vL ua z96]),rN b87 0 [vU 1,vN,vI 0,vN,vO,vF,vL ua z96],fun _ hS => ((hS.bk 0 rfl).atD rfl)⟩] ?_
   refine t_m0 [2] [0,1] [2] [vP b1] (fun _ _ H159 hd => o_store [vU 1,vN,vI 0,vN,vO,vF,vL ua z96] H159 hd rfl rfl (by kernel_rfl) rfl rfl rfl) ?_
   refine t_b 3 [2,3] [vP b1,vT] [] (t_end (t_sel [0,2] (t_ret ?_)))
   obtain rfl:=someE hm
   refine t_nil 137 a6 ?_
   refine t_frz [0,1,2] ?_
   exact fun _ _ H163 hS => retR2 H163 rfl (oneRes_agg rfl (hS.bk 1 rfl) Tryz.underlying39 rfl (by kernel_rfl)) rfl ⟨_,rfl,Gh.nil,ua,rfl,(hS.sel [0,2] rfl)⟩
def vf (m : Nat) (v_ : List ae) : Option (ay × Bool):=iQ m  m v_
theorem vn {af : Gh} (m : Nat) (v_ : List ae) (r : ay × Bool) (hm : vf m v_ = some r) (M : Av) (w : World) (hS : S0 M [eI a6 v_ af] w) : DoesX Tryz.prog 117 ⟨[vL af v_]⟩ w (fun v w' => ∃ (aA : Gh) (cY : Gh),v = .tuple ⟨[.agg ⟨e4 r.1 (gL [aA,cY])⟩,vB r.2]⟩ ∧ SH M (fpl [eI a6 v_ af]) w [eI a6 r.1.az.Value aA,eO 39 ak r.1.a8 cY] w'):=⟨Tryz.call117 _,wa m   m af M v_ r hm w hS⟩

def vR (gf : ay → Int → Option (Int)) : Prop:=∀ (ac : Gh) (a7 : Gh) (M : Av) (c_ : ay) (dn : Int) (r : Int),gf c_ dn = some r → ∀ w,S0 M [eI a6 c_.az.Value ac,eI ak c_.a8 a7] w → Calls Tryz.prog 186 ⟨[.agg ⟨e4 c_ (gL [ac,a7])⟩,vI dn]⟩ w (fun e w' => ∃ v,e = .returned v ∧ v = vI r ∧ SH M (fpl [eI a6 c_.az.Value ac,eI ak c_.a8 a7]) w [] w')
def me (m : Nat) (c_ : ay) (dn : Int) (pZ : ay → Int → Option (Int)) : Nat → Int → Int → Option (Int)
  | 0,_,_ => none
  | kk + 1,v11,v12 =>
    lt (cond (decide (v12 < (ln c_.a8))) (decide (v11 ≤ dn)) false) fun x13 =>
    cond x13 (
    chk (0 ≤ v12 ∧ v12 < ln c_.a8) <|
    Option.bind (pZ (gi c_.a8 v12) (w64 (dn - v11))) fun y17 =>
    me m c_ dn pZ kk (w64 (v11 + y17)) (w64 (v12 + 1))) (
    some v11)
def lK (m : Nat) : Nat → ay → Int → Option (Int)
  | 0,_,_ => none
  | k + 1,c_,dn =>
    Option.bind (
    me m c_ dn (lK m k) m 1 0) fun (z8 : Int) =>
    some z8
theorem vM (m : Nat) : ∀ (k : Nat),vR (lK m  k):=by
 intro k
 induction k with
 | zero => intro ac a7 M c_ dn r hm; exact noneE hm
 | succ k ih =>
  intro ac a7 M c_ dn r hm w hS
  rw [lK] at hm
  have hS0 : SH M (fpl [eI a6 c_.az.Value ac,eI ak c_.a8 a7]) w [eI a6 c_.az.Value ac,eI ak c_.a8 a7] w:=hS
  generalize hX : fpl [eI a6 c_.az.Value ac,eI ak c_.a8 a7] = X at hS0 ⊢
  clear hS hX
  have hS:=hS0
  clear hS0
  refine calls_entryP Tryz.func186 rfl Tryz.ntmps186 rfl fun _ H => ?_
  refine t_in H hS (t_starts ?_)
  refine t_m [] [0,1] [1] [vI dn] (fun _ _ H hd => o_box (e4 c_ (gL [ac,a7])) H hd rfl rfl) fun b1 => ?_
  refine t_b 2 [1,2] [vI dn,vP b1] [] (t_end ?_)
  refine t_r [1,2,5] [vI dn,vP b1,vI 1] [] ?_
  obtain ⟨z8,hz,hm⟩:=bindE hm
  refine t_cut [5] [vI z8] [eB b1 (e4 c_ (gL [ac,a7])),eI a6 c_.az.Value ac,eI ak c_.a8 a7] ?_ ?_
  ·replace hm:=hz
   refine t_r [1,2,5,6] [vI dn,vP b1,vI 1,vI 0] [] (t_block ?_)
   intro _ _ H10 hS
   refine w_loop (fun kk a' w' => ∃ (v11 : Int) (v12 : Int),me m c_ dn (lK m k) kk v11 v12 = some _ ∧ Fr 31 (fS [1,2,5,6] [vI dn,vP b1,vI v11,vI v12]) a' ∧ SH M X w [eB b1 (e4 c_ (gL [ac,a7])),eI a6 c_.az.Value ac,eI ak c_.a8 a7] w') ⟨_,1,0,hm,FrG.keep (ks:=[1,2,5,6]) H10 (by kernel_rfl),hS⟩ ?_
   clear hm H10 hS
   rintro kk _ _ ⟨v11,v12,hm,H,hS⟩
   cases kk with
   | zero => exact noneE hm
   | succ kk =>
    rw [me] at hm
    refine t_in H hS (t_seq ?_)
    obtain ⟨x13,hx13,hm⟩:=letE hm
    refine t_r [1,2,5,6,16] [vI dn,vP b1,vI v11,vI v12,vB x13] [kb 0 6] ?_ (he:=by subst hx13; kernel_rfl)
    refine t_im hm (fun hm => ?_) (fun hm => ?c22)
    case c22 =>
     refine t_exit ?_
     obtain rfl:=someE hm
     exact t_e [5]
    refine t_skip (t_seq (t_block ?_))
    obtain ⟨ho16,hm⟩:=chkE hm
    obtain ⟨y17,hy17,hm⟩:=bindE hm
    refine t_w [1,2,5,6] [vI dn,vP b1,vI (w64 (v11 + y17)),vI v12] [kb 0 6,ki 2 ho16,⟨some (.agg ⟨e4 (gi c_.a8 v12) (a7.s (v12).toNat)⟩),fun wz => V.atN (ab a7.a) (ao a7.a + (v12).toNat * 7) (e4 (gi c_.a8 v12) (a7.s (v12).toNat)) 0 wz,fun _ hS => ((hS.im 2 rfl).atA ho16 0 rfl)⟩,kr fun _ hS => retB_of (s0im (s0im s0nil (eY ((hS.im 2 rfl).el ho16))) (eX ((hS.im 2 rfl).el ho16))) (Tryz.call186 _) (fun w' h' => ih ((a7.s (v12).toNat 0)) ((a7.s (v12).toNat 1)) F0 _ _ _ hy17 w' h')] ?_
    refine t_w [1,2,5,6] [vI dn,vP b1,vI (w64 (v11 + y17)),vI (w64 (v12 + 1))] [] ?_
    exact fun _ _ H21 hS => ⟨_,Nat.lt_succ_self _,w64 (v11 + y17),w64 (v12 + 1),hm,FrG.keep (ks:=[1,2,5,6]) H21 (by kernel_rfl),hS⟩
  ·refine t_sel [] ?_
   refine t_r [4] [vI z8] [] (t_ret ?_)
   obtain rfl:=someE hm
   exact t_n [] rs1
def vc (m : Nat) (c_ : ay) (dn : Int) : Option (Int):=lK m  m c_ dn
theorem vk {ac : Gh} {a7 : Gh} (m : Nat) (c_ : ay) (dn : Int) (r : Int) (hm : vc m c_ dn = some r) (w : World) (hL : S0 F0 [eI a6 c_.az.Value ac,eI ak c_.a8 a7] w ∧ fpl [eI a6 c_.az.Value ac,eI ak c_.a8 a7] = []) : RetB Tryz.prog 186 ⟨[.agg ⟨e4 c_ (gL [ac,a7])⟩,vI dn]⟩ (vI r) w:=retB_of hL (Tryz.call186 _) (fun w' h => vM m   m ac a7 F0 c_ dn r hm w' h)

def vY (gf : ay → Option (Int)) : Prop:=∀ (ac : Gh) (a7 : Gh) (M : Av) (c_ : ay) (r : Int),gf c_ = some r → ∀ w,S0 M [eI a6 c_.az.Value ac,eI ak c_.a8 a7] w → Calls Tryz.prog 187 ⟨[.agg ⟨e4 c_ (gL [ac,a7])⟩]⟩ w (fun e w' => ∃ v,e = .returned v ∧ v = vI r ∧ SH M (fpl [eI a6 c_.az.Value ac,eI ak c_.a8 a7]) w [] w')
def mg (m : Nat) (c_ : ay) (qw : ay → Option (Int)) : Nat → Int → Int → Option (Int)
  | 0,_,_ => none
  | kk + 1,v20,v21 =>
    cond (decide (v21 < (ln c_.a8))) (
    chk (0 ≤ v21 ∧ v21 < ln c_.a8) <|
    Option.bind (
    lt (cond (((gi c_.a8 v21).aj) == 7) true (((gi c_.a8 v21).aj) == 8)) fun x30 =>
    cond x30 (
    some 0) (
    some 1)) fun (z29 : Int) =>
    Option.bind (qw (gi c_.a8 v21)) fun y36 =>
    lt (if v20 < w64 (z29 + y36) then w64 (z29 + y36) else v20) fun x37 =>
    mg m c_ qw kk x37 (w64 (v21 + 1))) (
    some v20)
def m7 (m : Nat) : Nat → ay → Option (Int)
  | 0,_ => none
  | k + 1,c_ =>
    cond (c_.aj == 7) (
    Option.bind (qd m c_.az.Value) fun y8 =>
    some (w64 (1 + y8))) (
    cond (c_.aj == 8) (
    some 1) (
    Option.bind (
    mg m c_ (m7 m k) m 0 0) fun (z17 : Int) =>
    some z17))
theorem vV (m : Nat) : ∀ (k : Nat),vY (m7 m  k):=by
 intro k
 induction k with
 | zero => intro ac a7 M c_ r hm; exact noneE hm
 | succ k ih =>
  intro ac a7 M c_ r hm w hS
  rw [m7] at hm
  have hS0 : SH M (fpl [eI a6 c_.az.Value ac,eI ak c_.a8 a7]) w [eI a6 c_.az.Value ac,eI ak c_.a8 a7] w:=hS
  generalize hX : fpl [eI a6 c_.az.Value ac,eI ak c_.a8 a7] = X at hS0 ⊢
  clear hS hX
  have hS:=hS0
  clear hS0
  refine calls_entryP Tryz.func187 rfl Tryz.ntmps187 rfl fun _ H => ?_
  refine t_in H hS (t_starts ?_)
  refine t_m [] [0,1] [] [] (fun _ _ H hd => o_box (e4 c_ (gL [ac,a7])) H hd rfl rfl) fun b1 => ?_
  refine t_b 2 [1] [vP b1] [] (t_end (t_seq ?_))
  refine t_r [1,9] [vP b1,vB (c_.aj == 7)] [kb 0 0] ?_
  refine t_im hm (fun hm => ?c49) (fun hm => ?_)
  case c49 =>
   obtain ⟨y8,hy8,hm⟩:=bindE hm
   refine t_r [2] [vI (w64 (1 + y8))] [kb 0 4,kr fun _ hS => rE (af:=ac) m _ _ hy8 _ (s0im s0nil (hS.im 1 rfl))] (t_sel [] (t_ret ?_))
   obtain rfl:=someE hm
   exact t_n [] rs1
  refine t_skip (t_seq ?_)
  refine t_r [1,17] [vP b1,vB (c_.aj == 8)] [kb 0 0] ?_
  refine t_im hm (fun hm => ?c48) (fun hm => ?_)
  case c48 =>
   refine t_r [2] [vI 1] [] (t_sel [] (t_ret ?_))
   obtain rfl:=someE hm
   exact t_n [] rs1
  refine t_skip ?_
  refine t_r [1,3] [vP b1,vI 0] [] ?_
  obtain ⟨z17,hz,hm⟩:=bindE hm
  refine t_cut [3] [vI z17] [eB b1 (e4 c_ (gL [ac,a7])),eI a6 c_.az.Value ac,eI ak c_.a8 a7] ?_ ?_
  ·replace hm:=hz
   refine t_r [1,3,4] [vP b1,vI 0,vI 0] [] (t_block ?_)
   intro _ _ H19 hS
   refine w_loop (fun kk a' w' => ∃ (v20 : Int) (v21 : Int),mg m c_ (m7 m k) kk v20 v21 = some _ ∧ Fr 48 (fS [1,3,4] [vP b1,vI v20,vI v21]) a' ∧ SH M X w [eB b1 (e4 c_ (gL [ac,a7])),eI a6 c_.az.Value ac,eI ak c_.a8 a7] w') ⟨_,0,0,hm,FrG.keep (ks:=[1,3,4]) H19 (by kernel_rfl),hS⟩ ?_
   clear hm H19 hS
   rintro kk _ _ ⟨v20,v21,hm,H,hS⟩
   cases kk with
   | zero => exact noneE hm
   | succ kk =>
    rw [mg] at hm
    refine t_in H hS (t_seq ?_)
    refine t_r [1,3,4,22] [vP b1,vI v20,vI v21,vB (decide (v21 < (ln c_.a8)))] [kb 0 6] ?_
    refine t_im hm (fun hm => ?_) (fun hm => ?c43)
    case c43 =>
     refine t_exit ?_
     obtain rfl:=someE hm
     exact t_e [3]
    refine t_skip (t_seq (t_block ?_))
    obtain ⟨ho24,hm⟩:=chkE hm
    refine t_r [1,3,4,5] [vP b1,vI v20,vI v21,vU ((gi c_.a8 v21).aj)] [kb 0 6,ki 2 ho24,kj 2 0 ho24] ?_
    refine t_r [1,3,4,5,6] [vP b1,vI v20,vI v21,vU ((gi c_.a8 v21).aj),vI 1] [] ?_
    obtain ⟨z29,hz,hm⟩:=bindE hm
    refine t_cut [1,3,4,6] [vP b1,vI v20,vI v21,vI z29] [eB b1 (e4 c_ (gL [ac,a7])),eI a6 c_.az.Value ac,eI ak c_.a8 a7] ?_ ?_
    ·replace hm:=hz
     obtain ⟨x30,hx30,hm⟩:=letE hm
     refine t_r [1,3,4,6,36] [vP b1,vI v20,vI v21,vI 1,vB x30] [] ?_ (he:=by subst hx30; kernel_rfl)
     refine t_im hm (fun hm => ?_) (fun hm => ?c35)
     case c35 =>
      refine t_skip ?_
      obtain rfl:=someE hm
      exact t_e [1,3,4,6]
     refine t_w [1,3,4,6] [vP b1,vI v20,vI v21,vI 0] [] ?_
     obtain rfl:=someE hm
     exact t_e [1,3,4,6]
    ·obtain ⟨y36,hy36,hm⟩:=bindE hm
     obtain ⟨x37,hx37,hm⟩:=letE hm
     refine t_w [1,3,4] [vP b1,vI x37,vI v21] [kb 0 6,ki 2 ho24,⟨some (.agg ⟨e4 (gi c_.a8 v21) (a7.s (v21).toNat)⟩),fun wz => V.atN (ab a7.a) (ao a7.a + (v21).toNat * 7) (e4 (gi c_.a8 v21) (a7.s (v21).toNat)) 0 wz,fun _ hS => ((hS.im 2 rfl).atA ho24 0 rfl)⟩,kr fun _ hS => retB_of (s0im (s0im s0nil (eY ((hS.im 2 rfl).el ho24))) (eX ((hS.im 2 rfl).el ho24))) (Tryz.call187 _) (fun w' h' => ih ((a7.s (v21).toNat 0)) ((a7.s (v21).toNat 1)) F0 _ _ hy36 w' h')] ?_ (he:=by subst hx37; kernel_rfl)
     refine t_w [1,3,4] [vP b1,vI x37,vI (w64 (v21 + 1))] [] ?_
     exact fun _ _ H41 hS => ⟨_,Nat.lt_succ_self _,x37,w64 (v21 + 1),hm,FrG.keep (ks:=[1,3,4]) H41 (by kernel_rfl),hS⟩
  ·refine t_sel [] ?_
   refine t_r [2] [vI z17] [] (t_ret ?_)
   obtain rfl:=someE hm
   exact t_n [] rs1
def vq (m : Nat) (c_ : ay) : Option (Int):=m7 m  m c_
theorem vb {ac : Gh} {a7 : Gh} (m : Nat) (c_ : ay) (r : Int) (hm : vq m c_ = some r) (w : World) (hL : S0 F0 [eI a6 c_.az.Value ac,eI ak c_.a8 a7] w ∧ fpl [eI a6 c_.az.Value ac,eI ak c_.a8 a7] = []) : RetB Tryz.prog 187 ⟨[.agg ⟨e4 c_ (gL [ac,a7])⟩]⟩ (vI r) w:=retB_of hL (Tryz.call187 _) (fun w' h => vV m   m ac a7 F0 c_ r hm w' h)

def lG (d_ : bD) : Bool :=
  lt (cond (d_.bA == []) ((ln d_.Value) == 0) false) fun x6 =>
  cond x6 (!d_.bK) false
theorem uw {bn : Gh} (d_ : bD) (w : World) (hL : S0 F0 [eI a6 d_.Value bn] w ∧ fpl [eI a6 d_.Value bn] = []) : RetB Tryz.prog 271 ⟨[.agg ⟨e11 d_ (gL [bn])⟩]⟩ (vB (lG d_)) w:=by
 generalize hm : lG d_ = r
 rw [lG] at hm
 refine f_read hL (Tryz.call271 _) Tryz.func271 Tryz.ntmps271 fun M X w => (t_starts ?_)
 refine t_m [] [0] [] [] (fun _ _ H hd => o_box (e11 d_ (gL [bn])) H hd rfl rfl) fun b1 => ?_
 refine t_b 2 [1] [vP b1] [] (t_end ?_)
 obtain ⟨x6,hx6,hm⟩:=letE hm
 refine t_r [2] [vB (cond x6 (!d_.bK) false)] [kb 0 0,kgb ((d_.bA == []) = true ∧ True) 0 1,kgb (x6 = true ∧ True) 0 2] ?_ (he:=by subst hx6; kernel_rfl)
 refine t_sel [] (t_ret ?_)
 subst hm
 exact t_n [] rs1

def dY (c_ : ay) : Bool :=
  lt (cond (cond (c_.bA == []) (c_.Num == 0) false) (lG c_.az) false) fun x6 =>
  x6
theorem mO {ac : Gh} {a7 : Gh} (c_ : ay) (w : World) (hL : S0 F0 [eI a6 c_.az.Value ac,eI ak c_.a8 a7] w ∧ fpl [eI a6 c_.az.Value ac,eI ak c_.a8 a7] = []) : RetB Tryz.prog 235 ⟨[.agg ⟨e4 c_ (gL [ac,a7])⟩]⟩ (vB (dY c_)) w:=by
 generalize hm : dY c_ = r
 rw [dY] at hm
 refine f_read hL (Tryz.call235 _) Tryz.func235 Tryz.ntmps235 fun M X w => (t_starts ?_)
 refine t_m [] [0,1] [] [] (fun _ _ H hd => o_box (e4 c_ (gL [ac,a7])) H hd rfl rfl) fun b1 => ?_
 refine t_b 2 [1] [vP b1] [] (t_end ?_)
 obtain ⟨x6,hx6,hm⟩:=letE hm
 refine t_r [2] [vB x6] [kb 0 1,kgb ((c_.bA == []) = true ∧ True) 0 2,⟨some (.agg ⟨e11 c_.az (gL [ac])⟩),fun wz => ((cond (c_.bA == []) (c_.Num == 0) false) = true ∧ True → V.atN b1 3 (e11 c_.az (gL [ac])) 0 wz),fun _ hS => fun hg => (hS.bk 0 rfl).atD rfl⟩,⟨some (vB (lG c_.az)),fun wz => ((cond (c_.bA == []) (c_.Num == 0) false) = true ∧ True → RetB Tryz.prog 271 ⟨[.agg ⟨e11 c_.az (gL [ac])⟩]⟩ (vB (lG c_.az)) wz),fun _ hS => fun hg => uw (bn:=ac) c_.az _ (s0im s0nil (hS.im 1 rfl))⟩] ?_ (he:=by subst hx6; kernel_rfl)
 refine t_sel [] (t_ret ?_)
 subst hm
 exact t_n [] rs1

def rJ (gf : ay → Option (Bool)) : Prop:=∀ (ac : Gh) (a7 : Gh) (M : Av) (c_ : ay) (r : Bool),gf c_ = some r → ∀ w,S0 M [eI a6 c_.az.Value ac,eI ak c_.a8 a7] w → Calls Tryz.prog 188 ⟨[.agg ⟨e4 c_ (gL [ac,a7])⟩]⟩ w (fun e w' => ∃ v,e = .returned v ∧ v = vB r ∧ SH M (fpl [eI a6 c_.az.Value ac,eI ak c_.a8 a7]) w [] w')
def io (m : Nat) (c_ : ay) (mF : ay → Option (Bool)) : Nat → Int → Option (Unit)
  | 0,_ => none
  | kk + 1,v35 =>
    cond (decide (v35 < (ln c_.a8))) (
    chk (0 ≤ v35 ∧ v35 < ln c_.a8) <|
    Option.bind (mF (gi c_.a8 v35)) fun y39 =>
    cond (!y39) (
    none) (
    io m c_ mF kk (w64 (v35 + 1)))) (
    some ())
def fy (m : Nat) : Nat → ay → Option (Bool)
  | 0,_ => none
  | k + 1,c_ =>
    Option.bind (
    cond (c_.aj == 7) (
    lt (cond (cond (c_.bA == []) (c_.Num == 0) false) ((ln c_.a8) == 0) false) fun x11 =>
    Option.bind (cond x11 (oW m c_.az) (some default)) fun y12 =>
    some (.inl (cond x11 (y12 == 0) false))) (
    cond (c_.aj == 8) (
    lt (cond (dY c_) ((ln c_.a8) == 0) false) fun x17 =>
    some (.inl x17)) (
    cond (c_.aj == 3) (
    lt (cond (dY c_) ((ln c_.a8) == 1) false) fun x22 =>
    chk (x22 = true → 0 ≤ (0 : Int) ∧ (0 : Int) < ln c_.a8) <|
    Option.bind (cond x22 ((fy m k) (gi c_.a8 (0 : Int))) (some default)) fun y24 =>
    some (.inl (cond x22 y24 false))) (
    cond (c_.aj == 1) (
    cond (c_.aj == 1) (
    lt (cond (!(dY c_)) true (decide ((ln c_.a8) < 2))) fun x29 =>
    cond x29 (
    none) (
    Option.bind (
    io m c_ (fy m k) m 0) fun (z32 : Unit) =>
    some (.inl true))) (
    some (.inr ()))) (
    none))))) fun (z6 : Sum (Bool) (Unit)) => sumK z6 fun s_z6 =>
    none
theorem rI (m : Nat) : ∀ (k : Nat),rJ (fy m  k):=by
 intro k
 induction k with
 | zero => intro ac a7 M c_ r hm; exact noneE hm
 | succ k ih =>
  intro ac a7 M c_ r hm w hS
  rw [fy] at hm
  have hS0 : SH M (fpl [eI a6 c_.az.Value ac,eI ak c_.a8 a7]) w [eI a6 c_.az.Value ac,eI ak c_.a8 a7] w:=hS
  generalize hX : fpl [eI a6 c_.az.Value ac,eI ak c_.a8 a7] = X at hS0 ⊢
  clear hS hX
  have hS:=hS0
  clear hS0
  refine calls_entryP Tryz.func188 rfl Tryz.ntmps188 rfl fun _ H => ?_
  refine t_in H hS (t_starts ?_)
  refine t_m [] [0,1] [] [] (fun _ _ H hd => o_box (e4 c_ (gL [ac,a7])) H hd rfl rfl) fun b1 => ?_
  refine t_b 2 [1] [vP b1] [] (t_end ?_)
  obtain ⟨z6,hz,hm_z6⟩:=bindE hm
  intro _ _ H5 hS
  refine w_cut (fun a' w' => ∃ s_z6 : Unit,z6 = Sum.inr s_z6 ∧ Fr 81 [] a' ∧ SH M X w [eB b1 (e4 c_ (gL [ac,a7])),eI a6 c_.az.Value ac,eI ak c_.a8 a7] w') ?_ ?_
  ·replace hm:=hz
   refine t_in H5 hS ?_
   refine t_r [1,5] [vP b1,vU c_.aj] [kb 0 0] (t_block ?_)
   refine t_r [1,5,6] [vP b1,vU c_.aj,vB (c_.aj == 7)] [] ?_
   refine t_im hm (fun hm => ?c55) (fun hm => ?_)
   case c55 =>
    obtain ⟨x11,hx11,hm⟩:=letE hm
    obtain ⟨y12,hy12,hm⟩:=bindE hm
    refine t_r [2] [vB (cond x11 (y12 == 0) false)] [kb 0 1,kgb ((c_.bA == []) = true ∧ True) 0 2,kgb ((cond (c_.bA == []) (c_.Num == 0) false) = true ∧ True) 0 6,⟨some (.agg ⟨e11 c_.az (gL [ac])⟩),fun wz => (x11 = true ∧ True → V.atN b1 3 (e11 c_.az (gL [ac])) 0 wz),fun _ hS => fun hg => (hS.bk 0 rfl).atD rfl⟩,kgr (x11 = true ∧ True) fun _ hS hg => qg (bn:=ac) m _ _ (bT (hg.1) hy12) _ (s0im s0nil (hS.im 1 rfl))] ?_ (he:=by subst hx11; kernel_rfl)
    refine t_ret ?_
    obtain rfl:=someE hm
    have hm:=hm_z6
    obtain rfl:=someE hm
    exact t_n [] rs1
   refine t_r [1,5,28] [vP b1,vU c_.aj,vB (c_.aj == 8)] [] ?_
   refine t_im hm (fun hm => ?c54) (fun hm => ?_)
   case c54 =>
    obtain ⟨x17,hx17,hm⟩:=letE hm
    refine t_r [2] [vB x17] [kE 0 7,⟨some (vB (dY c_)),rB 235 [.agg ⟨e4 c_ (gL [ac,a7])⟩] (vB (dY c_)),fun _ hS => (mO (ac:=ac) (a7:=a7) c_ _ (s0im (s0im s0nil (hS.im 2 rfl)) (hS.im 1 rfl)))⟩,kgb ((dY c_) = true ∧ True) 0 6] ?_ (he:=by subst hx17; kernel_rfl)
    refine t_ret ?_
    obtain rfl:=someE hm
    have hm:=hm_z6
    obtain rfl:=someE hm
    exact t_n [] rs1
   refine t_r [1,5,38] [vP b1,vU c_.aj,vB (c_.aj == 3)] [] ?_
   refine t_im hm (fun hm => ?c53) (fun hm => ?_)
   case c53 =>
    obtain ⟨x22,hx22,hm⟩:=letE hm
    obtain ⟨ho23,hm⟩:=chkE hm
    obtain ⟨y24,hy24,hm⟩:=bindE hm
    refine t_r [2] [vB (cond x22 y24 false)] [kE 0 7,⟨some (vB (dY c_)),rB 235 [.agg ⟨e4 c_ (gL [ac,a7])⟩] (vB (dY c_)),fun _ hS => (mO (ac:=ac) (a7:=a7) c_ _ (s0im (s0im s0nil (hS.im 2 rfl)) (hS.im 1 rfl)))⟩,kgb ((dY c_) = true ∧ True) 0 6,kgb (x22 = true ∧ True) 0 6,kgi (x22 = true ∧ True) 2 fun hg => (ho23 hg.1),⟨some (.agg ⟨e4 (gi c_.a8 (0 : Int)) (a7.s ((0 : Int)).toNat)⟩),fun wz => (x22 = true ∧ True → V.atN (ab a7.a) (ao a7.a + ((0 : Int)).toNat * 7) (e4 (gi c_.a8 (0 : Int)) (a7.s ((0 : Int)).toNat)) 0 wz),fun _ hS => fun hg => (hS.im 2 rfl).atA (ho23 hg.1) 0 rfl⟩,kgr (x22 = true ∧ True) fun _ hS hg => retB_of (s0im (s0im s0nil (eY ((hS.im 2 rfl).el (ho23 hg.1)))) (eX ((hS.im 2 rfl).el (ho23 hg.1)))) (Tryz.call188 _) (fun w' h' => ih ((a7.s ((0 : Int)).toNat 0)) ((a7.s ((0 : Int)).toNat 1)) F0 _ _ (bT (hg.1) hy24) w' h')] ?_ (he:=by subst hx22; kernel_rfl)
    refine t_ret ?_
    obtain rfl:=someE hm
    have hm:=hm_z6
    obtain rfl:=someE hm
    exact t_n [] rs1
   refine t_seq ?_
   refine t_r [1,5,55] [vP b1,vU c_.aj,vB (c_.aj == 1)] [] ?_
   refine t_i1 hm (fun hm => ?_)
   refine t_skip ?_
   refine t_im hm (fun hm => ?_) (fun hm => ?c51)
   case c51 =>
    refine t_skip ?_
    obtain rfl:=someE hm
    exact fun _ _ H28 hS => ⟨_,rfl,FrG.keep (ks:=[]) H28 (by kernel_rfl),hS⟩
   refine t_seq ?_
   obtain ⟨x29,hx29,hm⟩:=letE hm
   refine t_r [1,66] [vP b1,vB x29] [kE 0 7,⟨some (vB (dY c_)),rB 235 [.agg ⟨e4 c_ (gL [ac,a7])⟩] (vB (dY c_)),fun _ hS => (mO (ac:=ac) (a7:=a7) c_ _ (s0im (s0im s0nil (hS.im 2 rfl)) (hS.im 1 rfl)))⟩,kgb ((!(dY c_)) = false ∧ True) 0 6] ?_ (he:=by subst hx29; kernel_rfl)
   refine t_i2 hm (fun hm => ?_)
   refine t_skip ?_
   obtain ⟨z32,hz,hm⟩:=bindE hm
   refine t_cut [] [] [eB b1 (e4 c_ (gL [ac,a7])),eI a6 c_.az.Value ac,eI ak c_.a8 a7] ?_ ?_
   ·replace hm:=hz
    refine t_r [1,3] [vP b1,vI 0] [] (t_block ?_)
    intro _ _ H34 hS
    refine w_loop (fun kk a' w' => ∃ (v35 : Int),io m c_ (fy m k) kk v35 = some _ ∧ Fr 81 (fS [1,3] [vP b1,vI v35]) a' ∧ SH M X w [eB b1 (e4 c_ (gL [ac,a7])),eI a6 c_.az.Value ac,eI ak c_.a8 a7] w') ⟨_,0,hm,FrG.keep (ks:=[1,3]) H34 (by kernel_rfl),hS⟩ ?_
    clear hm H34 hS
    rintro kk _ _ ⟨v35,hm,H,hS⟩
    cases kk with
    | zero => exact noneE hm
    | succ kk =>
     rw [io] at hm
     refine t_in H hS (t_seq ?_)
     refine t_r [1,3,71] [vP b1,vI v35,vB (decide (v35 < (ln c_.a8)))] [kb 0 6] ?_
     refine t_im hm (fun hm => ?_) (fun hm => ?c45)
     case c45 =>
      refine t_exit ?_
      obtain rfl:=someE hm
      exact t_e []
     refine t_skip (t_seq (t_block ?_))
     obtain ⟨ho38,hm⟩:=chkE hm
     obtain ⟨y39,hy39,hm⟩:=bindE hm
     refine t_r [1,3,80] [vP b1,vI v35,vB (!y39)] [kb 0 6,ki 2 ho38,⟨some (.agg ⟨e4 (gi c_.a8 v35) (a7.s (v35).toNat)⟩),fun wz => V.atN (ab a7.a) (ao a7.a + (v35).toNat * 7) (e4 (gi c_.a8 v35) (a7.s (v35).toNat)) 0 wz,fun _ hS => ((hS.im 2 rfl).atA ho38 0 rfl)⟩,kr fun _ hS => retB_of (s0im (s0im s0nil (eY ((hS.im 2 rfl).el ho38))) (eX ((hS.im 2 rfl).el ho38))) (Tryz.call188 _) (fun w' h' => ih ((a7.s (v35).toNat 0)) ((a7.s (v35).toNat 1)) F0 _ _ hy39 w' h')] ?_
     refine t_i2 hm (fun hm => ?_)
     refine t_skip ?_
     refine t_w [1,3] [vP b1,vI (w64 (v35 + 1))] [] ?_
     exact fun _ _ H43 hS => ⟨_,Nat.lt_succ_self _,w64 (v35 + 1),hm,FrG.keep (ks:=[1,3]) H43 (by kernel_rfl),hS⟩
   ·refine t_r [2] [vT] [] (t_ret ?_)
    obtain rfl:=someE hm
    have hm:=hm_z6
    obtain rfl:=someE hm
    exact t_n [] rs1
  ·rintro _ _ ⟨s_z6,hz,H,hS⟩
   subst hz
   replace hm:=sumR hm_z6
   replace hS : SH M X w [] _:=hS.sel [] rfl
   exact noneE hm
def pa (m : Nat) (c_ : ay) : Option (Bool):=fy m  m c_
theorem r8 {ac : Gh} {a7 : Gh} (m : Nat) (c_ : ay) (r : Bool) (hm : pa m c_ = some r) (w : World) (hL : S0 F0 [eI a6 c_.az.Value ac,eI ak c_.a8 a7] w ∧ fpl [eI a6 c_.az.Value ac,eI ak c_.a8 a7] = []) : RetB Tryz.prog 188 ⟨[.agg ⟨e4 c_ (gL [ac,a7])⟩]⟩ (vB r) w:=retB_of hL (Tryz.call188 _) (fun w' h => rI m   m ac a7 F0 c_ r hm w' h)

def lZ (m : Nat) (c_ : ay) : Option (Bool) :=
  Option.bind (vc m c_ 1500) fun y6 =>
  Option.bind (cond (decide (y6 ≤ 1500)) (vq m c_) (some default)) fun y7 =>
  lt (cond (decide (y6 ≤ 1500)) (decide (y7 ≤ 16)) false) fun x8 =>
  Option.bind (cond x8 (pa m c_) (some default)) fun y9 =>
  some (cond x8 y9 false)
theorem qi {ac : Gh} {a7 : Gh} (m : Nat) (c_ : ay) (r : Bool) (hm : lZ m c_ = some r) (w : World) (hL : S0 F0 [eI a6 c_.az.Value ac,eI ak c_.a8 a7] w ∧ fpl [eI a6 c_.az.Value ac,eI ak c_.a8 a7] = []) : RetB Tryz.prog 118 ⟨[.agg ⟨e4 c_ (gL [ac,a7])⟩]⟩ (vB r) w:=by
 rw [lZ] at hm
 refine f_read hL (Tryz.call118 _) Tryz.func118 Tryz.ntmps118 fun M X w => (t_starts ?_)
 refine t_m [] [0,1] [] [] (fun _ _ H hd => o_box (e4 c_ (gL [ac,a7])) H hd rfl rfl) fun b1 => ?_
 refine t_b 2 [1] [vP b1] [] (t_end ?_)
 obtain ⟨y6,hy6,hm⟩:=bindE hm
 obtain ⟨y7,hy7,hm⟩:=bindE hm
 obtain ⟨x8,hx8,hm⟩:=letE hm
 obtain ⟨y9,hy9,hm⟩:=bindE hm
 refine t_r [2] [vB (cond x8 y9 false)] [kE 0 7,kr fun _ hS => vk (ac:=ac) (a7:=a7) m _ _ _ hy6 _ (s0im (s0im s0nil (hS.im 2 rfl)) (hS.im 1 rfl)),⟨some (.agg ⟨e4 c_ (gL [ac,a7])⟩),fun wz => ((decide (y6 ≤ 1500)) = true ∧ True → V.atN b1 0 (e4 c_ (gL [ac,a7])) 0 wz),fun _ hS => fun hg => (hS.bk 0 rfl).atD rfl⟩,kgr ((decide (y6 ≤ 1500)) = true ∧ True) fun _ hS hg => vb (ac:=ac) (a7:=a7) m _ _ (bT (hg.1) hy7) _ (s0im (s0im s0nil (hS.im 2 rfl)) (hS.im 1 rfl)),⟨some (.agg ⟨e4 c_ (gL [ac,a7])⟩),fun wz => (x8 = true ∧ True → V.atN b1 0 (e4 c_ (gL [ac,a7])) 0 wz),fun _ hS => fun hg => (hS.bk 0 rfl).atD rfl⟩,kgr (x8 = true ∧ True) fun _ hS hg => r8 (ac:=ac) (a7:=a7) m _ _ (bT (hg.1) hy9) _ (s0im (s0im s0nil (hS.im 2 rfl)) (hS.im 1 rfl))] ?_ (he:=by subst hx8; kernel_rfl)
 refine t_sel [] (t_ret ?_)
 obtain rfl:=someE hm
 exact t_n [] rs1

def qf (m : Nat) (v_ : List ae) : Option (ay × Bool) :=
  Option.bind (vf m v_) fun y8 =>
  cond y8.2 (
  Option.bind (lZ m y8.1) fun y26 =>
  some (y8.1,y26)) (
  some (y8.1,false))
theorem vZ {af : Gh} (M : Av) (m : Nat) (v_ : List ae) (r : ay × Bool) (hm : qf m v_ = some r) (w : World) (hS : S0 M [eI a6 v_ af] w) : Calls Tryz.prog 68 ⟨[vL af v_]⟩ w (fun e w' => ∃ v,e = .returned v ∧ ∃ (aA : Gh) (cY : Gh),v = .tuple ⟨[.agg ⟨e4 r.1 (gL [aA,cY])⟩,vB r.2]⟩ ∧ SH M (fpl [eI a6 v_ af]) w [eI a6 r.1.az.Value aA,eO 39 ak r.1.a8 cY] w'):=by
 rw [qf] at hm
 have hS0 : SH M (fpl [eI a6 v_ af]) w [eI a6 v_ af] w:=hS
 generalize hX : fpl [eI a6 v_ af] = X at hS0 ⊢
 clear hS hX
 have hS:=hS0
 clear hS0
 refine calls_entryP Tryz.func68 rfl Tryz.ntmps68 rfl fun _ H => ?_
 refine t_in H hS (t_starts ?_)
 refine t_m [] [0] [0] [vL af v_] (fun _ _ H hd => o_alloc [vU 0,vN,vI 0,vN,vO,vF,vO] (z:=vG [vU 0,vN,vI 0,vN,vO,vF,vO]) hd (by kernel_rfl) rfl) fun b1 => ?_
 refine t_b 2 [0,2] [vL af v_,vP b1] [] (t_end (t_starts ?_))
 refine t_b 1 [2,7] [vP b1,vL af v_] [] ?_
 obtain ⟨y8,hy8,hm⟩:=bindE hm
 intro _ _ H7 hS
 have hd:=hS.hand [1] [0,1] rfl rfl
 refine m_stp [8,2] [(2,[],vP b1)] H7 rfl rfl rfl rfl (o_callx H7 rfl rfl (vn (af:=af) m _ _ hy8 _ _ hd)) (fun _ => rfl) fun _ _ v H14 hq => ?_
 obtain ⟨g9,g11,rfl,hq⟩:=hq
 replace hS:=hS.join [1] [0,1] rfl rfl hq
 refine t_in H14 hS ?_
 refine t_b 5 [2,9,10] [vP b1,.agg ⟨e4 y8.1 (gL [g9,g11])⟩,vB y8.2] [] ?_
 refine t_m [] [0,1,2,3] [2,9,10] [vP b1,.agg ⟨e4 y8.1 (gL [g9,g11])⟩,vB y8.2] (fun _ _ H16 hd => o_alloc [vU 0,vN,vI 0,vN,vO,vF,vO] (z:=vG [vU 0,vN,vI 0,vN,vO,vF,vO]) hd (by kernel_rfl) rfl) fun b17 => ?_
 refine t_m0 [0] [1,2,3,4] [2,4,10] [vP b1,vP b17,vB y8.2] (fun _ _ H19 hd => o_store (e4 y8.1 (gL [g9,g11])) H19 hd rfl rfl (by kernel_rfl) rfl rfl rfl) ?_
 refine t_b 8 [2,4,5] [vP b1,vP b17,vB y8.2] [] (t_end (t_sel [0,1,2,3] ?_))
 intro _ _ H23 hS
 generalize hz_z24 : y8.2 = z24 at H23 hm
 cases z24
 case false =>
  replace hm:=bF rfl hm
  refine s_dG (base:=(fS [2,4,5] [vP b1,vP b17,vF])) (L:=[eB b17 (e4 y8.1 (gL [g9,g11])),eI a6 y8.1.az.Value g9,eO 39 ak y8.1.a8 g11,eB b1 [vU 0,vN,vI 0,vN,vO,vF,vO]]) 8 4 (fun yg30 => [.agg ⟨e4 y8.1 (gL [g9,g11])⟩,vF,vF,undef,undef,vF,undef,vF]) (fun yg30 => [[],[],[],[],[],[],[eB b1 (e4 y8.1 (gL [g9,g11]))],[]]) [[8,9,10],[],[],[],[],[],[9,10,11],[]] [[],[],[],[],[],[],[11],[]] [[0],[1],[1,2],[1,2,3],[1,2,4],[1,2,4,5],[0,6],[1,2,4,5,7]] [] (FrG.keep (ks:=[2,4,5]) H23 (by kernel_rfl)) (fun _ _ h => by cases h) (by kernel_rfl) hS (by kernel_rfl) rfl rfl (by kernel_rfl) (by kernel_rfl) (by kernel_rfl) ?hstep_yg30 fun _ _ yg30 H32 hv hS => ?hK_yg30
  case hstep_yg30 =>
   refine ⟨Or.inr ⟨trivial,?_⟩,Or.inr ⟨trivial,?_⟩,Or.inr ⟨trivial,?_⟩,Or.inl ⟨by kernel_rfl,Or.inl fun _ => rfl,fun _ => ⟨rfl,rfl⟩,rfl⟩,Or.inl ⟨by kernel_rfl,Or.inl fun _ => rfl,fun _ => ⟨rfl,rfl⟩,rfl⟩,Or.inr ⟨trivial,?_⟩,Or.inr ⟨trivial,?_⟩,Or.inr ⟨trivial,?_⟩,trivial⟩
   ·intro o ho a w yg30 M Hb hv hO hS
    obtain rfl:=someE ho
    exact Stp.mono (o_evs [(.agg ⟨e4 y8.1 (gL [g9,g11])⟩)] (.agg ⟨e4 y8.1 (gL [g9,g11])⟩) (some (fun wz => V.atN b17 0 (e4 y8.1 (gL [g9,g11])) 0 wz)) [] Hb rfl (by kernel_rfl) (fun q e => by cases e; exact ((hS.bk 0 rfl).atD rfl))) fun _ _ hq => ⟨gL [],fun _ _ => hq.1,(hS.below hq.2.below).sel [0,1,2] rfl⟩
   ·intro o ho a w yg30 M Hb hv hO hS
    obtain rfl:=someE ho
    exact Stp.mono (o_evs [] (vF) none [] Hb rfl (by kernel_rfl) (fun q e => by cases e)) fun _ _ hq => ⟨gL [],fun _ _ => hq.1,(hS.below hq.2.below).sel [] rfl⟩
   ·intro o ho a w yg30 M Hb hv hO hS
    obtain rfl:=someE ho
    exact Stp.mono (o_evs [] (vF) none [] ((Hb).add (hv 1 (by decide) (by decide) 12 rfl)) rfl (by kernel_rfl) (fun q e => by cases e)) fun _ _ hq => ⟨gL [],fun _ _ => hq.1,(hS.below hq.2.below).sel [] rfl⟩
   ·intro o ho a w yg30 M Hb hv hO hS
    obtain rfl:=someE ho
    exact Stp.mono (o_evs [] (vF) none [] (((Hb).add (hv 2 (by decide) (by decide) 13 rfl)).add (hv 4 (by decide) (by decide) 15 rfl)) rfl (by kernel_rfl) (fun q e => by cases e)) fun _ _ hq => ⟨gL [],fun _ _ => hq.1,(hS.below hq.2.below).sel [] rfl⟩
   ·intro o ho a w yg30 M Hb hv hO hS0
    obtain rfl:=someE ho
    have H : Fr 17 ([(11,[],.agg ⟨e4 y8.1 (gL [g9,g11])⟩)] ++ (fS [2,4,5] [vP b1,vP b17,vF])) _:=(Hb).add (hv 0 (by decide) (by decide) 11 rfl)
    obtain ⟨X,hX⟩ : ∃ X,X = fpl [eI a6 y8.1.az.Value g9,eO 39 ak y8.1.a8 g11,eB b1 [vU 0,vN,vI 0,vN,vO,vF,vO]]:=⟨_,rfl⟩
    have hS : SH M X w [eI a6 y8.1.az.Value g9,eO 39 ak y8.1.a8 g11,eB b1 [vU 0,vN,vI 0,vN,vO,vF,vO]] w:=by rw [hX]; exact hS0
    have hd:=hS.hand [2] [0,1] rfl rfl
    refine Stp.mono (o_store (e4 y8.1 (gL [g9,g11])) H hd rfl rfl (by kernel_rfl) rfl rfl rfl) ?_
    rintro v w2 hq
    replace hS:=hS.join [2] [0,1] rfl rfl hq
    rw [hX] at hS
    exact ⟨gL [],(fun _ h => by cases h),hS.sel [0,1,2] rfl⟩
   ·intro o ho a w yg30 M Hb hv hO hS
    obtain rfl:=someE ho
    exact Stp.mono (o_evs [] (vF) none [] ((Hb).add (hv 5 (by decide) (by decide) 16 rfl)) rfl (by kernel_rfl) (fun q e => by cases e)) fun _ _ hq => ⟨gL [],fun _ _ => hq.1,(hS.below hq.2.below).sel [] rfl⟩
  have H33 : Fr 17 (fS [3,2] [vF,vP b1]) _:=(FrG.add (FrG.keep (ks:=[2]) H32 (by kernel_rfl)) (hv 7 3 rfl))
  replace hS : SH M X w [eB b1 (e4 y8.1 (gL [g9,g11])),eB b17 (e4 y8.1 (gL [g9,g11])),eI a6 y8.1.az.Value g9,eO 39 ak y8.1.a8 g11] _:=hS
  clear hv H32
  replace hS:=hS.sel [0,2,3] rfl
  refine t_in H33 hS (t_ret ?_)
  obtain rfl:=someE hm
  exact fun _ _ H33 hS => retR2 H33 rfl (oneRes_agg rfl (hS.bk 0 rfl) Tryz.underlying39 rfl (by kernel_rfl)) rfl ⟨_,rfl,g9,g11,rfl,(hS.sel [1,2] rfl)⟩
 replace hm:=bT rfl hm
 obtain ⟨y26,hy26,hm⟩:=bindE hm
 refine s_dS (base:=(fS [2,4,5] [vP b1,vP b17,vT])) (L:=[eB b17 (e4 y8.1 (gL [g9,g11])),eI a6 y8.1.az.Value g9,eO 39 ak y8.1.a8 g11,eB b1 [vU 0,vN,vI 0,vN,vO,vF,vO]]) 8 4 (fun yg25 => [.agg ⟨e4 y8.1 (gL [g9,g11])⟩,vT,vT,.agg ⟨e4 y8.1 (gL [g9,g11])⟩,vB y26,vB y26,undef,vB y26]) (fun yg25 => [[],[],[],[],[],[],[eB b1 (e4 y8.1 (gL [g9,g11]))],[]]) [[8,9,10],[],[],[8,9,10],[9,10],[],[9,10,11],[]] [[],[],[],[],[],[],[11],[]] [[0],[1],[1,2],[1,2,3],[1,2,3,4],[1,2,3,4,5],[0,6],[1,2,3,4,5,7]] [] (FrG.keep (ks:=[2,4,5]) H23 (by kernel_rfl)) (fun _ _ h => by cases h) (by kernel_rfl) hS (by kernel_rfl) rfl rfl (by kernel_rfl) (by kernel_rfl) (by kernel_rfl) ⟨trivial,trivial,trivial,⟨by kernel_rfl,fun _ => rfl⟩,⟨by kernel_rfl,fun _ => rfl⟩,trivial,trivial,trivial,trivial⟩ ?hstep_yg25 fun _ _ yg25 H28 hv hS => ?hK_yg25
 case hstep_yg25 =>
  refine ⟨(se (fun _ _ => [⟨some (.agg ⟨e4 y8.1 (gL [g9,g11])⟩),fun wz => V.atN b17 0 (e4 y8.1 (gL [g9,g11])) 0 wz,fun _ hS => ((hS.bk 0 rfl).atD rfl)⟩])),se0,se0,(se (fun _ _ => [⟨some (.agg ⟨e4 y8.1 (gL [g9,g11])⟩),fun wz => V.atN b17 0 (e4 y8.1 (gL [g9,g11])) 0 wz,fun _ hS => ((hS.bk 0 rfl).atD rfl)⟩])),(se (fun _ _ => [⟨some (vB y26),rB 118 [.agg ⟨e4 y8.1 (gL [g9,g11])⟩] (vB y26),fun _ hS => (qi (ac:=g9) (a7:=g11) m _ _ hy26 _ (s0im (s0im s0nil (hS.osl 1 rfl)) (hS.im 0 rfl)))⟩])),se0,?_,se0,trivial⟩
  ·intro o ho a w yg25 M Hb hv hO hS0
   obtain rfl:=someE ho
   have H:=(Hb).add (hv 0 (by decide) (by decide) 11 rfl)
   have hS:=hS0
   have hd:=hS.hand [2] [0,1] rfl rfl
   refine Stp.mono (o_store (e4 y8.1 (gL [g9,g11])) H hd rfl rfl (by kernel_rfl) rfl rfl rfl) ?_
   rintro v w2 hq
   replace hS:=hS.join [2] [0,1] rfl rfl hq
   exact ⟨gL [],(fun _ h => by cases h),hS.sel [0,1,2] rfl⟩
 have H29 : Fr 17 (fS [3,2] [vB y26,vP b1]) _:=(FrG.add (FrG.keep (ks:=[2]) H28 (by kernel_rfl)) (hv 7 3 rfl))
 replace hS : SH M X w [eB b1 (e4 y8.1 (gL [g9,g11])),eB b17 (e4 y8.1 (gL [g9,g11])),eI a6 y8.1.az.Value g9,eO 39 ak y8.1.a8 g11] _:=hS
 clear hv H28
 replace hS:=hS.sel [0,2,3] rfl
 refine t_in H29 hS (t_ret ?_)
 obtain rfl:=someE hm
 exact fun _ _ H29 hS => retR2 H29 rfl (oneRes_agg rfl (hS.bk 0 rfl) Tryz.underlying39 rfl (by kernel_rfl)) rfl ⟨_,rfl,g9,g11,rfl,(hS.sel [1,2] rfl)⟩
theorem vu {af : Gh} (m : Nat) (v_ : List ae) (r : ay × Bool) (hm : qf m v_ = some r) (M : Av) (w : World) (hS : S0 M [eI a6 v_ af] w) : DoesX Tryz.prog 68 ⟨[vL af v_]⟩ w (fun v w' => ∃ (aA : Gh) (cY : Gh),v = .tuple ⟨[.agg ⟨e4 r.1 (gL [aA,cY])⟩,vB r.2]⟩ ∧ SH M (fpl [eI a6 v_ af]) w [eI a6 r.1.az.Value aA,eO 39 ak r.1.a8 cY] w'):=⟨Tryz.call68 _,vZ M m   v_ r hm w hS⟩

def kN (m : Nat) (l_ : List Str) : Nat → Int → Option (Unit)
  | 0,_ => none
  | kk + 1,v9 =>
    cond (decide (v9 < (ln l_))) (
    chk (0 ≤ v9 ∧ v9 < ln l_) <|
    Option.bind (oO m (gi l_ v9)) fun y13 =>
    cond (!y13) (
    none) (
    kN m l_ kk (w64 (v9 + 1)))) (
    some ())
def pG (m : Nat) (l_ : List Str) : Option (Bool) :=
  lt (cond (decide ((ln l_) < 1)) true (decide (16 < (ln l_)))) fun x3 =>
  cond x3 (
  none) (
  Option.bind (
  kN m l_ m 0) fun (z6 : Unit) =>
  some true)
theorem te {aa : Gh} (m : Nat) (l_ : List Str) (r : Bool) (hm : pG m l_ = some r) (w : World) (hL : S0 F0 [eI tS l_ aa] w ∧ fpl [eI tS l_ aa] = []) : RetB Tryz.prog 189 ⟨[vL aa l_]⟩ (vB r) w:=by
 rw [pG] at hm
 refine f_read hL (Tryz.call189 _) Tryz.func189 Tryz.ntmps189 fun M X w => ?_
 refine t_r [0] [vL aa l_] [] (t_seq ?_)
 obtain ⟨x3,hx3,hm⟩:=letE hm
 refine t_r [0,11] [vL aa l_,vB x3] [] ?_ (he:=by subst hx3; kernel_rfl)
 refine t_i2 hm (fun hm => ?_)
 refine t_skip ?_
 obtain ⟨z6,hz,hm⟩:=bindE hm
 refine t_cut [] [] [eI tS l_ aa] ?_ ?_
 ·replace hm:=hz
  refine t_r [0,3] [vL aa l_,vI 0] [] (t_block ?_)
  intro _ _ H8 hS
  refine w_loop (fun kk a' w' => ∃ (v9 : Int),kN m l_ kk v9 = some _ ∧ Fr 24 (fS [0,3] [vL aa l_,vI v9]) a' ∧ SH M X w [eI tS l_ aa] w') ⟨_,0,hm,FrG.keep (ks:=[0,3]) H8 (by kernel_rfl),hS⟩ ?_
  clear hm H8 hS
  rintro kk _ _ ⟨v9,hm,H,hS⟩
  cases kk with
  | zero => exact noneE hm
  | succ kk =>
   rw [kN] at hm
   refine t_in H hS (t_seq ?_)
   refine t_r [0,3,15] [vL aa l_,vI v9,vB (decide (v9 < (ln l_)))] [] ?_
   refine t_im hm (fun hm => ?_) (fun hm => ?c19)
   case c19 =>
    refine t_exit ?_
    obtain rfl:=someE hm
    exact t_e []
   refine t_skip (t_seq (t_block ?_))
   obtain ⟨ho12,hm⟩:=chkE hm
   obtain ⟨y13,hy13,hm⟩:=bindE hm
   refine t_r [0,3,23] [vL aa l_,vI v9,vB (!y13)] [ki 0 ho12,kj 0 0 ho12,kc (qo m _ _ hy13)] ?_
   refine t_i2 hm (fun hm => ?_)
   refine t_skip ?_
   refine t_w [0,3] [vL aa l_,vI (w64 (v9 + 1))] [] ?_
   exact fun _ _ H17 hS => ⟨_,Nat.lt_succ_self _,w64 (v9 + 1),hm,FrG.keep (ks:=[0,3]) H17 (by kernel_rfl),hS⟩
 ·refine t_sel [] ?_
  refine t_r [2] [vT] [] (t_ret ?_)
  obtain rfl:=someE hm
  exact t_n [] rs1

def mq (m : Nat) (y5 : List ae) : Nat → (List Str) → Int → Option (List Str)
  | 0,_,_ => none
  | kk + 1,v18,v20 =>
    cond (decide (v20 < (ln y5))) (
    Option.bind (
    chk (0 ≤ v20 ∧ v20 < ln y5) <|
    cond ((Int.tmod v20 2) == 0) (
    cond (((gi y5 v20).ax.aj) != 1) (
    none) (
    chk (ln v18 + ln ([(gi y5 v20).ax.ei] : List Str) ≤ 137438953472) <|
    lt (v18 ++ ([(gi y5 v20).ax.ei] : List Str)) fun q43 =>
    some q43)) (
    lt (cond (((gi y5 v20).ax.aj) != 9) true (!(((gi y5 v20).ax.ei) == [46]))) fun x50 =>
    cond x50 (
    none) (
    some v18))) fun (z23 : List Str) =>
    mq m y5 kk z23 (w64 (v20 + 1))) (
    some v18)
def qD (m : Nat) (v_ : List ae) : Option ((List Str) × Bool) :=
  Option.bind (eg m v_) fun y5 =>
  Option.bind (
  mq m y5 m ([] : List Str) 0) fun (z14 : List Str) =>
  Option.bind (cond ((Int.tmod (ln y5) 2) == 1) (pG m z14) (some default)) fun y63 =>
  lt (cond ((Int.tmod (ln y5) 2) == 1) y63 false) fun x64 =>
  some (z14,x64)
theorem rF {af : Gh} (m : Nat) (v_ : List ae) (r : (List Str) × Bool) (hm : qD m v_ = some r) : DoesM Tryz.prog 119 ⟨[vL af v_]⟩ [eI a6 v_ af] (fun (aA : Gh) => vW [vL aA r.1,vB r.2]) (fun aA => [eO 9 tS r.1 aA]):=by
 rw [qD] at hm
 refine f_mem (Tryz.call119 _) Tryz.func119 Tryz.ntmps119 fun M X w => ?_
 refine t_r [0] [vL af v_] [] (t_starts ?_)
 refine t_b 1 [7] [vL af v_] [] ?_
 obtain ⟨y5,hy5,hm⟩:=bindE hm
 refine t_c [0] [0] [] [] (dD (af:=af) m _ _ hy5) fun g6 => ?_
 refine t_b 3 [0] [vL g6 y5] [] (t_end (t_sel [0] ?_))
 refine t_r [0,4] [vL g6 y5,vO] [] ?_
 obtain ⟨z14,hz,hm⟩:=bindE hm
 refine t_cutg [0,4] (fun (g61 : Gh) => [vL g6 y5,vL g61 z14]) (fun g61 => [eO 9 tS z14 g61,eI a6 y5 g6]) ?_ ?_
 ·replace hm:=hz
  refine t_r [0,4,5] [vL g6 y5,vO,vI 0] [] (t_block ?_)
  refine t_nil 9 tS ?_
  intro _ _ H16 hS
  refine w_loop (fun kk a' w' => ∃ (v18 : List Str) (v20 : Int) (g19 : Gh),mq m y5 kk v18 v20 = some _ ∧ Fr 48 (fS [0,4,5] [vL g6 y5,vL g19 v18,vI v20]) a' ∧ SH M X w [eO 9 tS v18 g19,eI a6 y5 g6] w') ⟨_,([] : List Str),0,Gh.nil,hm,FrG.keep (ks:=[0,4,5]) H16 (by kernel_rfl),hS⟩ ?_
  clear hm H16 hS
  rintro kk _ _ ⟨v18,v20,g19,hm,H,hS⟩
  cases kk with
  | zero => exact noneE hm
  | succ kk =>
   rw [mq] at hm
   refine t_in H hS (t_seq ?_)
   refine t_r [0,4,5,12] [vL g6 y5,vL g19 v18,vI v20,vB (decide (v20 < (ln y5)))] [] ?_
   refine t_im hm (fun hm => ?_) (fun hm => ?c59)
   case c59 =>
    refine t_exit ?_
    obtain rfl:=someE hm
    exact t_eg g19 [0,4]
   refine t_skip ?_
   obtain ⟨z23,hz,hm⟩:=bindE hm
   refine t_cutg [0,5,4] (fun (g55 : Gh) => [vL g6 y5,vI v20,vL g55 z23]) (fun g55 => [eO 9 tS z23 g55,eI a6 y5 g6]) ?_ ?_
   ·replace hm:=hz
    refine t_block (t_starts ?_)
    obtain ⟨ho24,hm⟩:=chkE hm
    refine t_b 5 [0,4,5,19] [vL g6 y5,vL g19 v18,vI v20,.agg ⟨e6 ((gi y5 v20).ax)⟩] [ki 1 ho24,⟨some (.agg ⟨e6 ((gi y5 v20).ax)⟩),fun wz => V.atN (ab g6.a) (ao g6.a + (v20).toNat * 6) (e6 ((gi y5 v20).ax)) 0 wz,fun _ hS => ((hS.im 1 rfl).atA ho24 0 rfl)⟩] ?_
    refine t_m [] [0,1] [0,4,5,19] [vL g6 y5,vL g19 v18,vI v20,.agg ⟨e6 ((gi y5 v20).ax)⟩] (fun _ _ H26 hd => o_alloc [vU 0,vN,vI 0,vN,vF] (z:=vG [vU 0,vN,vI 0,vN,vF]) hd (by kernel_rfl) rfl) fun b27 => ?_
    refine t_m0 [0] [1,2] [0,4,5,6] [vL g6 y5,vL g19 v18,vI v20,vP b27] (fun _ _ H29 hd => o_store (e6 ((gi y5 v20).ax)) H29 hd rfl rfl (by kernel_rfl) rfl rfl rfl) (t_end ?_)
    refine t_r [0,4,5,6,22] [vL g6 y5,vL g19 v18,vI v20,vP b27,vB ((Int.tmod v20 2) == 0)] [⟨none,fun _ => (2 : Int) ≠ 0,fun _ _ => (by show (2 : Int) ≠ 0; decide)⟩] ?_
    refine t_im hm (fun hm => ?_) (fun hm => ?c54)
    case c54 =>
     obtain ⟨x50,hx50,hm⟩:=letE hm
     refine t_r [0,4,5,38] [vL g6 y5,vL g19 v18,vI v20,vB x50] [kb 0 0,kgb ((((gi y5 v20).ax.aj) != 9) = false ∧ True) 0 1] ?_ (he:=by subst hx50; kernel_rfl)
     refine t_sel [1,2] ?_
     refine t_i2 hm (fun hm => ?_)
     refine t_skip ?_
     obtain rfl:=someE hm
     exact t_eg g19 [0,5,4]
    refine t_seq ?_
    refine t_r [0,4,5,6,25] [vL g6 y5,vL g19 v18,vI v20,vP b27,vB (((gi y5 v20).ax.aj) != 1)] [kb 0 0] ?_
    refine t_i2 hm (fun hm => ?_)
    refine t_skip (t_start ?_)
    refine t_b 3 [0,5,26,28] [vL g6 y5,vI v20,vL g19 v18,vS (gi y5 v20).ax.ei] [kb 0 1] ?_
    refine t_m [] [0,1,2] [0,5,26] [vL g6 y5,vI v20,vL g19 v18] (fun _ _ H37 hd => o_li (T:=tS) (E:=9) (zv:=vN) [vS (gi y5 v20).ax.ei] ([(gi y5 v20).ax.ei] : List Str) [gL []] H37 hd rfl (InnL.cons trivial InnL.nil)) fun g38 => ?_
    obtain ⟨ho42,hm⟩:=chkE hm
    obtain ⟨q43,hq43,hm⟩:=letE hm
    refine t_m [2,0] [1,3] [0,5] [vL g6 y5,vI v20] (fun _ _ H41 hd => o_app2 (T:=tS) (zv:=vN) (g1:=g19) (g2:=g38) (l1:=v18) (l2:=([(gi y5 v20).ax.ei] : List Str)) q43 hq43.symm H41 hd rfl rfl rfl rfl rfl rfl rfl (by kernel_rfl) (by kernel_rfl) rfl rfl ho42) fun g46 => ?_
    refine t_b 6 [0,4,5] [vL g6 y5,vL g46 q43,vI v20] [] (t_end (t_sel [0,3] ?_))
    obtain rfl:=someE hm
    exact t_eg g46 [0,5,4]
   ·intro g55
    refine t_w [0,4,5] [vL g6 y5,vL g55 z23,vI (w64 (v20 + 1))] [] ?_
    exact fun _ _ H57 hS => ⟨_,Nat.lt_succ_self _,z23,w64 (v20 + 1),g55,hm,FrG.keep (ks:=[0,4,5]) H57 (by kernel_rfl),hS⟩
 ·intro g61
  obtain ⟨y63,hy63,hm⟩:=bindE hm
  obtain ⟨x64,hx64,hm⟩:=letE hm
  refine t_r [2,3] [vL g61 z14,vB x64] [⟨none,fun _ => (2 : Int) ≠ 0,fun _ _ => (by show (2 : Int) ≠ 0; decide)⟩,kgr (((Int.tmod (ln y5) 2) == 1) = true ∧ True) fun _ hS hg => te (aa:=g61) m _ _ (bT (hg.1) hy63) _ (s0im s0nil (hS.osl 0 rfl))] ?_ (he:=by subst hx64; kernel_rfl)
  refine t_sel [0] (t_ret ?_)
  obtain rfl:=someE hm
  exact t_g g61 [0] rs2

def lp (m : Nat) (y79 : List (List ae)) : Nat → Int → (List (List Str)) → Option (Sum (aS × Bool) (List (List Str)))
  | 0,_,_ => none
  | kk + 1,v90,v91 =>
    cond (decide (v90 < (ln y79))) (
    chk (0 ≤ v90 ∧ v90 < ln y79) <|
    Option.bind (qD m (gi y79 v90)) fun y99 =>
    cond (!y99.2) (
    some (.inl ((aS.mk 5 ([] : List aK) ([] : List bD) (ay.mk 0 [] 0 (bD.mk [] ([] : List ae) false) ([] : List ay)) v91 ([] : List aS)),false))) (
    chk (ln v91 + ln ([y99.1] : List (List Str)) ≤ 137438953472) <|
    lt (v91 ++ ([y99.1] : List (List Str))) fun q126 =>
    lp m y79 kk (w64 (v90 + 1)) q126)) (
    some (.inr v91))
def oJ (m : Nat) (c_ : aU) : Option (aS × Bool) :=
  cond c_.nA (
  Option.bind (eg m c_.cS) fun y20 =>
  cond ((ln y20) == 0) (
  some ((aS.mk 4 ([] : List aK) ([] : List bD) (ay.mk 0 [] 0 (bD.mk [] ([] : List ae) false) ([] : List ay)) ([] : List (List Str)) ([] : List aS)),true)) (
  Option.bind (qD m c_.cS) fun y41 =>
  some ((aS.mk 4 ([] : List aK) ([] : List bD) (ay.mk 0 [] 0 (bD.mk [] ([] : List ae) false) ([] : List ay)) ([y41.1] : List (List Str)) ([] : List aS)),y41.2))) (
  Option.bind (lI m c_.cS 18) fun y79 =>
  Option.bind (
  lp m y79 m 0 ([] : List (List Str))) fun (z86 : Sum (aS × Bool) (List (List Str))) => sumK z86 fun s_z86 =>
  some ((aS.mk 5 ([] : List aK) ([] : List bD) (ay.mk 0 [] 0 (bD.mk [] ([] : List ae) false) ([] : List ay)) s_z86 ([] : List aS)),decide ((ln y79) ≤ 64)))
theorem ve {ac : Gh} {a7 : Gh} (M : Av) (m : Nat) (c_ : aU) (r : aS × Bool) (hm : oJ m c_ = some r) (w : World) (hS : S0 M [eI a6 c_.cS ac,eI a6 c_.gt a7] w) : Calls Tryz.prog 69 ⟨[.agg ⟨e8 c_ (gL [ac,a7])⟩]⟩ w (fun e w' => ∃ v,e = .returned v ∧ ∃ (aA : Gh) (cY : Gh) (s6 : Gh) (sn : Gh) (sU : Gh) (sa : Gh),v = .tuple ⟨[.agg ⟨e5 r.1 (gL [aA,cY,s6,sn,sU,sa])⟩,vB r.2]⟩ ∧ SH M (fpl [eI a6 c_.cS ac,eI a6 c_.gt a7]) w [eO 213 au r.1.aC aA,eO 36 bf r.1.bl cY,eO 137 a6 r.1.aB.az.Value s6,eO 39 ak r.1.aB.a8 sn,eO 55 (Ty.sl tS) r.1.aQ sU,eO 42 aJ r.1.aF sa] w'):=by
 rw [oJ] at hm
 have hS0 : SH M (fpl [eI a6 c_.cS ac,eI a6 c_.gt a7]) w [eI a6 c_.cS ac,eI a6 c_.gt a7] w:=hS
 generalize hX : fpl [eI a6 c_.cS ac,eI a6 c_.gt a7] = X at hS0 ⊢
 clear hS hX
 have hS:=hS0
 clear hS0
 refine calls_entryP Tryz.func69 rfl Tryz.ntmps69 rfl fun _ H => ?_
 refine t_in H hS (t_starts ?_)
 refine t_m [] [0,1] [] [] (fun _ _ H hd => o_box (e8 c_ (gL [ac,a7])) H hd rfl rfl) fun b1 => ?_
 refine t_m [] [0,1,2] [1] [vP b1] (fun _ _ H3 hd => o_alloc [vU 0,vO,vO,vU 0,vN,vI 0,vN,vO,vF,vO,vO,vO] (z:=vG [vU 0,vO,vO,vU 0,vN,vI 0,vN,vO,vF,vO,vO,vO]) hd (by kernel_rfl) rfl) fun b4 => ?_
 refine t_b 3 [1,2] [vP b1,vP b4] [] (t_end (t_seq ?_))
 refine t_r [1,2,13] [vP b1,vP b4,vB c_.nA] [kb 1 3] ?_
 refine t_im hm (fun hm => ?c153) (fun hm => ?_)
 case c153 =>
  refine t_starts ?_
  refine t_b 1 [1,2,14] [vP b1,vP b4,vG [vU 4,vO,vO,vU 0,vN,vI 0,vN,vO,vF,vO,vO,vO]] [] ?_
  refine t_m [] [0,1,2,3] [1,2,14] [vP b1,vP b4,vG [vU 4,vO,vO,vU 0,vN,vI 0,vN,vO,vF,vO,vO,vO]] (fun _ _ H12 hd => o_alloc [vU 0,vO,vO,vU 0,vN,vI 0,vN,vO,vF,vO,vO,vO] (z:=vG [vU 0,vO,vO,vU 0,vN,vI 0,vN,vO,vF,vO,vO,vO]) hd (by kernel_rfl) rfl) fun b13 => ?_
  refine t_m0 [0] [1,2,3,4] [1,2,4] [vP b1,vP b4,vP b13] (fun _ _ H15 hd => o_store [vU 4,vO,vO,vU 0,vN,vI 0,vN,vO,vF,vO,vO,vO] H15 hd rfl rfl (by kernel_rfl) rfl rfl rfl) (t_end (t_seq (t_starts ?_)))
  refine t_b 2 [1,2,4,16] [vP b1,vP b4,vP b13,vL ac c_.cS] [kb 2 1] ?_
  obtain ⟨y20,hy20,hm⟩:=bindE hm
  refine t_c [3] [0,1,2,3,4] [1,2,4] [vP b1,vP b4,vP b13] (dD (af:=ac) m _ _ hy20) fun g21 => ?_
  refine t_b 5 [1,2,4,19] [vP b1,vP b4,vP b13,vB ((ln y20) == 0)] [] (t_end (t_sel [1,2,3,4,5] ?_))
  refine t_im hm (fun hm => ?c69) (fun hm => ?_)
  case c69 =>
   refine t_starts ?_
   refine t_b 1 [2,20] [vP b4,vG [vU 4,vO,vO,vU 0,vN,vI 0,vN,vO,vF,vO,vO,vO]] [⟨some (vG [vU 4,vO,vO,vU 0,vN,vI 0,vN,vO,vF,vO,vO,vO]),rN b13 0 [vU 4,vO,vO,vU 0,vN,vI 0,vN,vO,vF,vO,vO,vO],fun _ hS => ((hS.bk 0 rfl).atD rfl)⟩] ?_
   refine t_m0 [1] [0,2,3,4] [2] [vP b4] (fun _ _ H28 hd => o_store [vU 4,vO,vO,vU 0,vN,vI 0,vN,vO,vF,vO,vO,vO] H28 hd rfl rfl (by kernel_rfl) rfl rfl rfl) ?_
   refine t_b 3 [2,3] [vP b4,vT] [] (t_end (t_sel [0] (t_ret ?_)))
   obtain rfl:=someE hm
   refine t_nil 213 au ?_
   refine t_nil 36 bf ?_
   refine t_nil 137 a6 ?_
   refine t_nil 39 ak ?_
   refine t_nil 55 (Ty.sl tS) ?_
   refine t_nil 42 aJ ?_
   exact fun _ _ H32 hS => retR2 H32 rfl (oneRes_agg rfl (hS.bk 6 rfl) Tryz.underlying42 rfl (by kernel_rfl)) rfl ⟨_,rfl,Gh.nil,Gh.nil,Gh.nil,Gh.nil,Gh.nil,Gh.nil,rfl,(hS.sel [5,4,3,2,1,0] rfl)⟩
  refine t_skip (t_starts ?_)
  refine t_b 2 [2,4,23] [vP b4,vP b13,vL ac c_.cS] [kb 2 1] ?_
  obtain ⟨y41,hy41,hm⟩:=bindE hm
  refine t_c [3] [0,1,2,3,4] [2,4] [vP b4,vP b13] (rF (af:=ac) m _ _ hy41) fun g42 => ?_
  refine t_b 8 [2,4,5,6] [vP b4,vP b13,vL g42 y41.1,vB y41.2] [] (t_end (t_sel [0,1,2] (t_starts ?_)))
  refine t_b 1 [2,4,6,27] [vP b4,vP b13,vB y41.2,vL g42 y41.1] [] ?_
  refine t_frz [0,1,2] ?_
  refine t_m [0] [0,1,2] [2,4,6] [vP b4,vP b13,vB y41.2] (fun _ _ H49 hd => o_li (T:=(Ty.sl tS)) (E:=55) (zv:=vO) [vL g42 y41.1] ([y41.1] : List (List Str)) [gL [g42]] H49 hd rfl (InnL.cons (hd.im 0 rfl) InnL.nil)) fun g50 => ?_
  refine t_b 3 [2,4,6,28,29] [vP b4,vP b13,vB y41.2,vK g50 1,vA b13 10] [] ?_
  refine t_m0 [2] [0,1,3] [2,4,6] [vP b4,vP b13,vB y41.2] (fun _ _ H55 hd => o_store [vU 4,vO,vO,vU 0,vN,vI 0,vN,vO,vF,vO,vK g50 1,vO] H55 hd rfl rfl (by kernel_rfl) rfl rfl rfl) (t_end (t_sel [0,1,3] (t_starts ?_)))
  refine t_b 2 [2,30,31] [vP b4,vG [vU 4,vO,vO,vU 0,vN,vI 0,vN,vO,vF,vO,vK g50 1,vO],vB y41.2] [⟨some (vG [vU 4,vO,vO,vU 0,vN,vI 0,vN,vO,vF,vO,vK g50 1,vO]),rN b13 0 [vU 4,vO,vO,vU 0,vN,vI 0,vN,vO,vF,vO,vK g50 1,vO],fun _ hS => ((hS.bk 0 rfl).atD rfl)⟩] ?_
  refine t_m0 [2] [0,1] [2,31] [vP b4,vB y41.2] (fun _ _ H59 hd => o_store [vU 4,vO,vO,vU 0,vN,vI 0,vN,vO,vF,vO,vK g50 1,vO] H59 hd rfl rfl (by kernel_rfl) rfl rfl rfl) ?_
  refine t_b 4 [2,3] [vP b4,vB y41.2] [] (t_end (t_sel [0,2] (t_ret ?_)))
  obtain rfl:=someE hm
  refine t_nil 213 au ?_
  refine t_nil 36 bf ?_
  refine t_nil 137 a6 ?_
  refine t_nil 39 ak ?_
  refine t_nil 42 aJ ?_
  exact fun _ _ H63 hS => retR2 H63 rfl (oneRes_agg rfl (hS.bk 5 rfl) Tryz.underlying42 rfl (by kernel_rfl)) rfl ⟨_,rfl,Gh.nil,Gh.nil,Gh.nil,Gh.nil,g50,Gh.nil,rfl,(hS.sel [4,3,2,1,6,0] rfl)⟩
 refine t_skip (t_starts ?_)
 refine t_b 1 [1,2,32] [vP b1,vP b4,vG [vU 5,vO,vO,vU 0,vN,vI 0,vN,vO,vF,vO,vO,vO]] [] ?_
 refine t_m [] [0,1,2,3] [1,2,32] [vP b1,vP b4,vG [vU 5,vO,vO,vU 0,vN,vI 0,vN,vO,vF,vO,vO,vO]] (fun _ _ H71 hd => o_alloc [vU 0,vO,vO,vU 0,vN,vI 0,vN,vO,vF,vO,vO,vO] (z:=vG [vU 0,vO,vO,vU 0,vN,vI 0,vN,vO,vF,vO,vO,vO]) hd (by kernel_rfl) rfl) fun b72 => ?_
 refine t_m0 [0] [1,2,3,4] [1,2,7] [vP b1,vP b4,vP b72] (fun _ _ H74 hd => o_store [vU 5,vO,vO,vU 0,vN,vI 0,vN,vO,vF,vO,vO,vO] H74 hd rfl rfl (by kernel_rfl) rfl rfl rfl) (t_end (t_starts ?_))
 refine t_b 2 [2,7,34] [vP b4,vP b72,vL ac c_.cS] [kb 2 1] ?_
 obtain ⟨y79,hy79,hm⟩:=bindE hm
 refine t_c [3] [0,1,2,3,4] [2,7] [vP b4,vP b72] (lB (af:=ac) m _ _ _ hy79) fun g80 => ?_
 refine t_b 4 [2,7,8] [vP b4,vP b72,vL g80 y79] [] (t_end (t_sel [0,1,2] ?_))
 obtain ⟨z86,hz,hm_z86⟩:=bindE hm
 intro _ _ H85 hS
 refine w_cut (fun a' w' => ∃ s_z86 : List (List Str),z86 = Sum.inr s_z86 ∧ ∃ (vw : Gh),Fr 63 (fS [2,7,8] [vP b4,vP b72,vL g80 y79]) a' ∧ SH M X w [eO 55 (Ty.sl tS) s_z86 vw,eO 34 (Ty.sl a6) y79 g80,eB b72 [vU 5,vO,vO,vU 0,vN,vI 0,vN,vO,vF,vO,vL vw s_z86,vO],eB b4 [vU 0,vO,vO,vU 0,vN,vI 0,vN,vO,vF,vO,vO,vO]] w') ?_ ?_
 ·replace hm:=hz
  refine t_in H85 hS ?_
  refine t_r [2,7,8,9] [vP b4,vP b72,vL g80 y79,vI 0] [] (t_block ?_)
  refine t_nil 55 (Ty.sl tS) ?_
  intro _ _ H88 hS
  refine w_loop (fun kk a' w' => ∃ (v90 : Int) (v91 : List (List Str)) (g92 : Gh),lp m y79 kk v90 v91 = some _ ∧ Fr 63 (fS [2,7,8,9] [vP b4,vP b72,vL g80 y79,vI v90]) a' ∧ SH M X w [eO 55 (Ty.sl tS) v91 g92,eO 34 (Ty.sl a6) y79 g80,eB b72 [vU 5,vO,vO,vU 0,vN,vI 0,vN,vO,vF,vO,vL g92 v91,vO],eB b4 [vU 0,vO,vO,vU 0,vN,vI 0,vN,vO,vF,vO,vO,vO]] w') ⟨_,0,([] : List (List Str)),Gh.nil,hm,FrG.keep (ks:=[2,7,8,9]) H88 (by kernel_rfl),hS⟩ ?_
  clear hm H88 hS
  rintro kk _ _ ⟨v90,v91,g92,hm,H,hS⟩
  cases kk with
  | zero => exact noneE hm
  | succ kk =>
   rw [lp] at hm
   refine t_in H hS (t_seq ?_)
   refine t_r [2,7,8,9,39] [vP b4,vP b72,vL g80 y79,vI v90,vB (decide (v90 < (ln y79)))] [] ?_
   refine t_im hm (fun hm => ?_) (fun hm => ?c137)
   case c137 =>
    refine t_exit ?_
    obtain rfl:=someE hm
    exact fun _ _ H94 hS => ⟨_,rfl,g92,FrG.keep (ks:=[2,7,8]) H94 (by kernel_rfl),hS⟩
   refine t_skip (t_seq (t_block (t_starts ?_)))
   obtain ⟨ho95,hm⟩:=chkE hm
   refine t_b 4 [2,7,8,9,46] [vP b4,vP b72,vL g80 y79,vI v90,.slice (g80.s (v90).toNat 0).a ((gi y79 v90).length) (g80.s (v90).toNat 0).c] [kI 1 ho95,kJ 1 0 ho95] ?_
   intro _ _ H97 hS
   replace hS:=hS.addIm (sl_inn ((hS.ow 1 rfl).el ho95))
   obtain ⟨y99,hy99,hm⟩:=bindE hm
   refine t_in H97 hS ?_
   refine t_c [0] [0,1,2,3,4] [2,7,8,9] [vP b4,vP b72,vL g80 y79,vI v90] (rF (af:=(g80.s (v90).toNat 0)) m _ _ hy99) fun rL => ?_
   refine t_b 10 [2,7,8,9,10,11] [vP b4,vP b72,vL g80 y79,vI v90,vL rL y99.1,vB y99.2] [] (t_end (t_sel [0,2,3,4,5] (t_seq ?_)))
   refine t_r [2,7,8,9,10,51] [vP b4,vP b72,vL g80 y79,vI v90,vL rL y99.1,vB (!y99.2)] [] ?_
   refine t_im hm (fun hm => ?c136) (fun hm => ?_)
   case c136 =>
    refine t_starts ?_
    refine t_b 1 [2,52] [vP b4,vG [vU 5,vO,vO,vU 0,vN,vI 0,vN,vO,vF,vO,vL g92 v91,vO]] [⟨some (vG [vU 5,vO,vO,vU 0,vN,vI 0,vN,vO,vF,vO,vL g92 v91,vO]),rN b72 0 [vU 5,vO,vO,vU 0,vN,vI 0,vN,vO,vF,vO,vL g92 v91,vO],fun _ hS => ((hS.bk 3 rfl).atD rfl)⟩] ?_
    refine t_m0 [4] [0,1,2,3] [2] [vP b4] (fun _ _ H109 hd => o_store [vU 5,vO,vO,vU 0,vN,vI 0,vN,vO,vF,vO,vL g92 v91,vO] H109 hd rfl rfl (by kernel_rfl) rfl rfl rfl) ?_
    refine t_b 3 [2,3] [vP b4,vF] [] (t_end (t_sel [0,2,3,4] (t_ret ?_)))
    obtain rfl:=someE hm
    have hm:=hm_z86
    obtain rfl:=someE hm
    refine t_nil 213 au ?_
    refine t_nil 36 bf ?_
    refine t_nil 137 a6 ?_
    refine t_nil 39 ak ?_
    refine t_nil 42 aJ ?_
    exact fun _ _ H113 hS => retR2 H113 rfl (oneRes_agg rfl (hS.bk 5 rfl) Tryz.underlying42 rfl (by kernel_rfl)) rfl ⟨_,rfl,Gh.nil,Gh.nil,Gh.nil,Gh.nil,g92,Gh.nil,rfl,(hS.sel [4,3,2,1,6,0] rfl)⟩
   refine t_skip (t_start ?_)
   refine t_b 3 [2,7,8,9,54,55] [vP b4,vP b72,vL g80 y79,vI v90,vL g92 v91,vL rL y99.1] [kb 3 10] ?_
   refine t_frz [0,1,2,3,4] ?_
   refine t_m [0] [0,1,2,3,4] [2,7,8,9,54] [vP b4,vP b72,vL g80 y79,vI v90,vL g92 v91] (fun _ _ H120 hd => o_li (T:=(Ty.sl tS)) (E:=55) (zv:=vO) [vL rL y99.1] ([y99.1] : List (List Str)) [gL [rL]] H120 hd rfl (InnL.cons (hd.im 0 rfl) InnL.nil)) fun g121 => ?_
   obtain ⟨ho125,hm⟩:=chkE hm
   obtain ⟨q126,hq126,hm⟩:=letE hm
   refine t_m [2,0] [1,3,4,5] [2,7,8,9] [vP b4,vP b72,vL g80 y79,vI v90] (fun _ _ H124 hd => o_app2 (T:=(Ty.sl tS)) (zv:=vO) (g1:=g92) (g2:=g121) (l1:=v91) (l2:=([y99.1] : List (List Str))) q126 hq126.symm H124 hd rfl rfl rfl rfl rfl rfl rfl (by kernel_rfl) (by kernel_rfl) rfl rfl ho125) fun g129 => ?_
   refine t_b 6 [2,7,8,9,57,58] [vP b4,vP b72,vL g80 y79,vI v90,vL g129 q126,vA b72 10] [] ?_
   refine t_m0 [4] [0,1,2,3,5] [2,7,8,9] [vP b4,vP b72,vL g80 y79,vI v90] (fun _ _ H131 hd => o_store [vU 5,vO,vO,vU 0,vN,vI 0,vN,vO,vF,vO,vL g129 q126,vO] H131 hd rfl rfl (by kernel_rfl) rfl rfl rfl) (t_end (t_sel [0,1,4,5] ?_))
   refine t_w [2,7,8,9] [vP b4,vP b72,vL g80 y79,vI (w64 (v90 + 1))] [] (t_sel [1,2,0,3] ?_)
   exact fun _ _ H135 hS => ⟨_,Nat.lt_succ_self _,w64 (v90 + 1),q126,g129,hm,FrG.keep (ks:=[2,7,8,9]) H135 (by kernel_rfl),hS⟩
 ·rintro _ _ ⟨s_z86,hz,vw,H,hS⟩
  subst hz
  replace hm:=sumR hm_z86
  refine t_in H hS (t_starts ?_)
  refine t_b 4 [2,59,62] [vP b4,vG [vU 5,vO,vO,vU 0,vN,vI 0,vN,vO,vF,vO,vL vw s_z86,vO],vB (decide ((ln y79) ≤ 64))] [⟨some (vG [vU 5,vO,vO,vU 0,vN,vI 0,vN,vO,vF,vO,vL vw s_z86,vO]),rN b72 0 [vU 5,vO,vO,vU 0,vN,vI 0,vN,vO,vF,vO,vL vw s_z86,vO],fun _ hS => ((hS.bk 2 rfl).atD rfl)⟩] ?_
  refine t_m0 [3] [0,1,2] [2,62] [vP b4,vB (decide ((ln y79) ≤ 64))] (fun _ _ H142 hd => o_store [vU 5,vO,vO,vU 0,vN,vI 0,vN,vO,vF,vO,vL vw s_z86,vO] H142 hd rfl rfl (by kernel_rfl) rfl rfl rfl) ?_
  refine t_b 6 [2,3] [vP b4,vB (decide ((ln y79) ≤ 64))] [] (t_end (t_sel [0,1] (t_ret ?_)))
  obtain rfl:=someE hm
  refine t_nil 213 au ?_
  refine t_nil 36 bf ?_
  refine t_nil 137 a6 ?_
  refine t_nil 39 ak ?_
  refine t_nil 42 aJ ?_
  exact fun _ _ H146 hS => retR2 H146 rfl (oneRes_agg rfl (hS.bk 5 rfl) Tryz.underlying42 rfl (by kernel_rfl)) rfl ⟨_,rfl,Gh.nil,Gh.nil,Gh.nil,Gh.nil,vw,Gh.nil,rfl,(hS.sel [4,3,2,1,6,0] rfl)⟩
theorem uo {ac : Gh} {a7 : Gh} (m : Nat) (c_ : aU) (r : aS × Bool) (hm : oJ m c_ = some r) (M : Av) (w : World) (hS : S0 M [eI a6 c_.cS ac,eI a6 c_.gt a7] w) : DoesX Tryz.prog 69 ⟨[.agg ⟨e8 c_ (gL [ac,a7])⟩]⟩ w (fun v w' => ∃ (aA : Gh) (cY : Gh) (s6 : Gh) (sn : Gh) (sU : Gh) (sa : Gh),v = .tuple ⟨[.agg ⟨e5 r.1 (gL [aA,cY,s6,sn,sU,sa])⟩,vB r.2]⟩ ∧ SH M (fpl [eI a6 c_.cS ac,eI a6 c_.gt a7]) w [eO 213 au r.1.aC aA,eO 36 bf r.1.bl cY,eO 137 a6 r.1.aB.az.Value s6,eO 39 ak r.1.aB.a8 sn,eO 55 (Ty.sl tS) r.1.aQ sU,eO 42 aJ r.1.aF sa] w'):=⟨Tryz.call69 _,ve M m   c_ r hm w hS⟩

def oQ (m : Nat) (c_ : aU) : Option (aS × Bool) :=
  cond (c_.At == []) (
  Option.bind (uQ m c_.cS) fun y13 =>
  cond (cond (!c_.nA) true (y13.2 != 0)) (
  none) (
  Option.bind (uh m c_.gt) fun y24 =>
  some ((aS.mk 1 y13.1 y24 (ay.mk 0 [] 0 (bD.mk [] ([] : List ae) false) ([] : List ay)) ([] : List (List Str)) ([] : List aS)),true))) (
  Option.bind (gD m c_.At [109,101,100,105,97]) fun y40 =>
  cond (cond y40 c_.nA false) (
  Option.bind (oU m c_.cS) fun y45 =>
  some ((aS.mk 2 ([] : List aK) ([] : List bD) y45.1 ([] : List (List Str)) ([] : List aS)),y45.2)) (
  Option.bind (gD m c_.At [115,117,112,112,111,114,116,115]) fun y71 =>
  cond (cond y71 c_.nA false) (
  Option.bind (qf m c_.cS) fun y76 =>
  some ((aS.mk 3 ([] : List aK) ([] : List bD) y76.1 ([] : List (List Str)) ([] : List aS)),y76.2)) (
  Option.bind (gD m c_.At [108,97,121,101,114]) fun y102 =>
  cond y102 (
  Option.bind (oJ m c_) fun y107 =>
  some (y107.1,y107.2)) (
  none))))
theorem uX {ac : Gh} {a7 : Gh} (M : Av) (m : Nat) (c_ : aU) (r : aS × Bool) (hm : oQ m c_ = some r) (w : World) (hS : S0 M [eI a6 c_.cS ac,eI a6 c_.gt a7] w) : Calls Tryz.prog 44 ⟨[.agg ⟨e8 c_ (gL [ac,a7])⟩]⟩ w (fun e w' => ∃ v,e = .returned v ∧ ∃ (aA : Gh) (cY : Gh) (s6 : Gh) (sn : Gh) (sU : Gh) (sa : Gh),v = .tuple ⟨[.agg ⟨e5 r.1 (gL [aA,cY,s6,sn,sU,sa])⟩,vB r.2]⟩ ∧ SH M (fpl [eI a6 c_.cS ac,eI a6 c_.gt a7]) w [eO 213 au r.1.aC aA,eO 36 bf r.1.bl cY,eI a6 r.1.aB.az.Value s6,eO 39 ak r.1.aB.a8 sn,eO 55 (Ty.sl tS) r.1.aQ sU,eO 42 aJ r.1.aF sa] w'):=by
 rw [oQ] at hm
 have hS0 : SH M (fpl [eI a6 c_.cS ac,eI a6 c_.gt a7]) w [eI a6 c_.cS ac,eI a6 c_.gt a7] w:=hS
 generalize hX : fpl [eI a6 c_.cS ac,eI a6 c_.gt a7] = X at hS0 ⊢
 clear hS hX
 have hS:=hS0
 clear hS0
 refine calls_entryP Tryz.func44 rfl Tryz.ntmps44 rfl fun _ H => ?_
 refine t_in H hS (t_starts ?_)
 refine t_m [] [0,1] [] [] (fun _ _ H hd => o_box (e8 c_ (gL [ac,a7])) H hd rfl rfl) fun b1 => ?_
 refine t_m [] [0,1,2] [1] [vP b1] (fun _ _ H3 hd => o_alloc [vU 0,vO,vO,vU 0,vN,vI 0,vN,vO,vF,vO,vO,vO] (z:=vG [vU 0,vO,vO,vU 0,vN,vI 0,vN,vO,vF,vO,vO,vO]) hd (by kernel_rfl) rfl) fun b4 => ?_
 refine t_b 3 [1,2] [vP b1,vP b4] [] (t_end (t_seq ?_))
 refine t_r [1,2,12] [vP b1,vP b4,vB (c_.At == [])] [kb 1 0] ?_
 refine t_im hm (fun hm => ?c131) (fun hm => ?_)
 case c131 =>
  refine t_starts ?_
  refine t_b 2 [1,2,15] [vP b1,vP b4,vL ac c_.cS] [kb 1 1] ?_
  obtain ⟨y13,hy13,hm⟩:=bindE hm
  refine t_c [2] [0,1,2,3] [1,2] [vP b1,vP b4] (w6 (af:=ac) m _ _ hy13) fun g14 => ?_
  refine t_b 8 [1,2,4,5] [vP b1,vP b4,vL g14 y13.1,vI y13.2] [] (t_end (t_seq ?_))
  refine t_r [1,2,4,25] [vP b1,vP b4,vL g14 y13.1,vB (cond (!c_.nA) true (y13.2 != 0))] [kb 2 3] ?_
  refine t_i2 hm (fun hm => ?_)
  refine t_skip (t_starts ?_)
  refine t_b 3 [2,27,29] [vP b4,vL g14 y13.1,vL a7 c_.gt] [kb 2 2] ?_
  obtain ⟨y24,hy24,hm⟩:=bindE hm
  refine t_c [4] [0,1,2,3,4] [2,27] [vP b4,vL g14 y13.1] (vE (af:=a7) m _ _ hy24) fun g25 => ?_
  refine t_b 5 [2,31] [vP b4,vG [vU 1,vL g14 y13.1,vL g25 y24,vU 0,vN,vI 0,vN,vO,vF,vO,vO,vO]] [] ?_
  refine t_m0 [2] [0,1,3,4,5] [2] [vP b4] (fun _ _ H30 hd => o_store [vU 1,vL g14 y13.1,vL g25 y24,vU 0,vN,vI 0,vN,vO,vF,vO,vO,vO] H30 hd rfl rfl (by kernel_rfl) rfl rfl rfl) ?_
  refine t_b 7 [2,3] [vP b4,vT] [] (t_end (t_sel [0,1,2] (t_ret ?_)))
  obtain rfl:=someE hm
  refine t_nil 137 a6 ?_
  refine t_frz [0,1,2,3] ?_
  refine t_nil 39 ak ?_
  refine t_nil 55 (Ty.sl tS) ?_
  refine t_nil 42 aJ ?_
  exact fun _ _ H34 hS => retR2 H34 rfl (oneRes_agg rfl (hS.bk 4 rfl) Tryz.underlying42 rfl (by kernel_rfl)) rfl ⟨_,rfl,g14,g25,Gh.nil,Gh.nil,Gh.nil,Gh.nil,rfl,(hS.sel [6,5,3,2,1,0] rfl)⟩
 refine t_skip (t_seq ?_)
 obtain ⟨y40,hy40,hm⟩:=bindE hm
 refine t_r [1,2,38] [vP b1,vP b4,vB (cond y40 c_.nA false)] [kb 1 0,kc (fG m _ _ _ hy40),kgb (y40 = true ∧ True) 1 3] ?_
 refine t_im hm (fun hm => ?c130) (fun hm => ?_)
 case c130 =>
  refine t_starts ?_
  refine t_b 2 [2,41] [vP b4,vL ac c_.cS] [kb 1 1] ?_
  obtain ⟨y45,hy45,hm⟩:=bindE hm
  intro _ _ H44 hS
  have hd:=hS.hand [2] [0,1,2,3] rfl rfl
  refine m_stp [42,2] [(2,[],vP b4)] H44 rfl rfl rfl rfl (o_callx H44 rfl rfl (u9 (af:=ac) m _ _ hy45 _ _ hd)) (fun _ => rfl) fun _ _ v H51 hq => ?_
  obtain ⟨g46,g48,rfl,hq⟩:=hq
  replace hS:=hS.join [2] [0,1,2,3] rfl rfl hq
  refine t_in H51 hS ?_
  refine t_b 6 [2,43,44] [vP b4,.agg ⟨e4 y45.1 (gL [g46,g48])⟩,vB y45.2] [] ?_
  refine t_m [] [0,1,2,3,4,5] [2,43,44] [vP b4,.agg ⟨e4 y45.1 (gL [g46,g48])⟩,vB y45.2] (fun _ _ H53 hd => o_alloc [vU 0,vN,vI 0,vN,vO,vF,vO] (z:=vG [vU 0,vN,vI 0,vN,vO,vF,vO]) hd (by kernel_rfl) rfl) fun b54 => ?_
  refine t_m0 [0] [1,2,3,4,5,6] [2,6,44] [vP b4,vP b54,vB y45.2] (fun _ _ H56 hd => o_store (e4 y45.1 (gL [g46,g48])) H56 hd rfl rfl (by kernel_rfl) rfl rfl rfl) ?_
  refine t_b 9 [2,6,7] [vP b4,vP b54,vB y45.2] [] (t_end (t_sel [0,1,2,3] (t_starts ?_)))
  refine t_b 3 [2,46,47] [vP b4,vG [vU 2,vO,vO,vU y45.1.aj,vS y45.1.bA,vI y45.1.Num,vS y45.1.az.bA,vL g46 y45.1.az.Value,vB y45.1.az.bK,vL g48 y45.1.a8,vO,vO],vB y45.2] [kE 0 7] ?_
  refine t_m0 [3] [0,1,2] [2,47] [vP b4,vB y45.2] (fun _ _ H62 hd => o_store [vU 2,vO,vO,vU y45.1.aj,vS y45.1.bA,vI y45.1.Num,vS y45.1.az.bA,vL g46 y45.1.az.Value,vB y45.1.az.bK,vL g48 y45.1.a8,vO,vO] H62 hd rfl rfl (by kernel_rfl) rfl rfl rfl) ?_
  refine t_b 5 [2,3] [vP b4,vB y45.2] [] (t_end (t_sel [0,2,3] (t_ret ?_)))
  obtain rfl:=someE hm
  refine t_nil 213 au ?_
  refine t_nil 36 bf ?_
  refine t_frz [3,0,1,2,4] ?_
  refine t_nil 55 (Ty.sl tS) ?_
  refine t_nil 42 aJ ?_
  exact fun _ _ H66 hS => retR2 H66 rfl (oneRes_agg rfl (hS.bk 5 rfl) Tryz.underlying42 rfl (by kernel_rfl)) rfl ⟨_,rfl,Gh.nil,Gh.nil,g46,g48,Gh.nil,Gh.nil,rfl,(hS.sel [4,3,2,6,1,0] rfl)⟩
 refine t_skip (t_seq ?_)
 obtain ⟨y71,hy71,hm⟩:=bindE hm
 refine t_r [1,2,54] [vP b1,vP b4,vB (cond y71 c_.nA false)] [kb 1 0,kc (fG m _ _ _ hy71),kgb (y71 = true ∧ True) 1 3] ?_
 refine t_im hm (fun hm => ?_) (fun hm => ?c129)
 case c129 =>
  refine t_skip (t_seq ?_)
  obtain ⟨y102,hy102,hm⟩:=bindE hm
  refine t_r [1,2,66] [vP b1,vP b4,vB y102] [kb 1 0,kc (fG m _ _ _ hy102)] ?_
  refine t_im hm (fun hm => ?_) (fun hm => ?c128)
  case c128 =>
   refine t_skip ?_
   intro _ _ H104 hS
   exact noneE hm
  refine t_starts ?_
  refine t_b 1 [2,67] [vP b4,.agg ⟨e8 c_ (gL [ac,a7])⟩] [kE 1 4] ?_
  obtain ⟨y107,hy107,hm⟩:=bindE hm
  intro _ _ H106 hS
  have hd:=hS.hand [2,3] [0,1,2,3] rfl rfl
  refine m_stp [68,2] [(2,[],vP b4)] H106 rfl rfl rfl rfl (o_callx H106 rfl rfl (uo (ac:=ac) (a7:=a7) m _ _ hy107 _ _ hd)) (fun _ => rfl) fun _ _ v H121 hq => ?_
  obtain ⟨g108,tO,g112,g114,nD,g118,rfl,hq⟩:=hq
  replace hS:=hS.join [2,3] [0,1,2,3] rfl rfl hq
  refine t_in H121 hS ?_
  refine t_b 4 [2,69,70] [vP b4,.agg ⟨e5 y107.1 (gL [g108,tO,g112,g114,nD,g118])⟩,vB y107.2] [] ?_
  refine t_m0 [6] [0,1,2,3,4,5,7,8,9] [2,70] [vP b4,vB y107.2] (fun _ _ H123 hd => o_store (e5 y107.1 (gL [g108,tO,g112,g114,nD,g118])) H123 hd rfl rfl (by kernel_rfl) rfl rfl rfl) ?_
  refine t_b 6 [2,3] [vP b4,vB y107.2] [] (t_end (t_sel [0,1,2,3,4,5,6] (t_ret ?_)))
  obtain rfl:=someE hm
  refine t_frz [3,0,1,2,4,5,6] ?_
  exact fun _ _ H127 hS => retR2 H127 rfl (oneRes_agg rfl (hS.bk 1 rfl) Tryz.underlying42 rfl (by kernel_rfl)) rfl ⟨_,rfl,g108,tO,g112,g114,nD,g118,rfl,(hS.sel [2,3,0,4,5,6] rfl)⟩
 refine t_starts ?_
 refine t_b 2 [2,57] [vP b4,vL ac c_.cS] [kb 1 1] ?_
 obtain ⟨y76,hy76,hm⟩:=bindE hm
 intro _ _ H75 hS
 have hd:=hS.hand [2] [0,1,2,3] rfl rfl
 refine m_stp [58,2] [(2,[],vP b4)] H75 rfl rfl rfl rfl (o_callx H75 rfl rfl (vu (af:=ac) m _ _ hy76 _ _ hd)) (fun _ => rfl) fun _ _ v H82 hq => ?_
 obtain ⟨g77,g79,rfl,hq⟩:=hq
 replace hS:=hS.join [2] [0,1,2,3] rfl rfl hq
 refine t_in H82 hS ?_
 refine t_b 6 [2,59,60] [vP b4,.agg ⟨e4 y76.1 (gL [g77,g79])⟩,vB y76.2] [] ?_
 refine t_m [] [0,1,2,3,4,5] [2,59,60] [vP b4,.agg ⟨e4 y76.1 (gL [g77,g79])⟩,vB y76.2] (fun _ _ H84 hd => o_alloc [vU 0,vN,vI 0,vN,vO,vF,vO] (z:=vG [vU 0,vN,vI 0,vN,vO,vF,vO]) hd (by kernel_rfl) rfl) fun b85 => ?_
 refine t_m0 [0] [1,2,3,4,5,6] [2,8,60] [vP b4,vP b85,vB y76.2] (fun _ _ H87 hd => o_store (e4 y76.1 (gL [g77,g79])) H87 hd rfl rfl (by kernel_rfl) rfl rfl rfl) ?_
 refine t_b 9 [2,8,9] [vP b4,vP b85,vB y76.2] [] (t_end (t_sel [0,1,2,3] (t_starts ?_)))
 refine t_b 3 [2,62,63] [vP b4,vG [vU 3,vO,vO,vU y76.1.aj,vS y76.1.bA,vI y76.1.Num,vS y76.1.az.bA,vL g77 y76.1.az.Value,vB y76.1.az.bK,vL g79 y76.1.a8,vO,vO],vB y76.2] [kE 0 7] ?_
 refine t_m0 [3] [0,1,2] [2,63] [vP b4,vB y76.2] (fun _ _ H93 hd => o_store [vU 3,vO,vO,vU y76.1.aj,vS y76.1.bA,vI y76.1.Num,vS y76.1.az.bA,vL g77 y76.1.az.Value,vB y76.1.az.bK,vL g79 y76.1.a8,vO,vO] H93 hd rfl rfl (by kernel_rfl) rfl rfl rfl) ?_
 refine t_b 5 [2,3] [vP b4,vB y76.2] [] (t_end (t_sel [0,2,3] (t_ret ?_)))
 obtain rfl:=someE hm
 refine t_nil 213 au ?_
 refine t_nil 36 bf ?_
 refine t_nil 55 (Ty.sl tS) ?_
 refine t_nil 42 aJ ?_
 exact fun _ _ H97 hS => retR2 H97 rfl (oneRes_agg rfl (hS.bk 4 rfl) Tryz.underlying42 rfl (by kernel_rfl)) rfl ⟨_,rfl,Gh.nil,Gh.nil,g77,g79,Gh.nil,Gh.nil,rfl,(hS.sel [3,2,5,6,1,0] rfl)⟩
theorem ul {ac : Gh} {a7 : Gh} (m : Nat) (c_ : aU) (r : aS × Bool) (hm : oQ m c_ = some r) (M : Av) (w : World) (hS : S0 M [eI a6 c_.cS ac,eI a6 c_.gt a7] w) : DoesX Tryz.prog 44 ⟨[.agg ⟨e8 c_ (gL [ac,a7])⟩]⟩ w (fun v w' => ∃ (aA : Gh) (cY : Gh) (s6 : Gh) (sn : Gh) (sU : Gh) (sa : Gh),v = .tuple ⟨[.agg ⟨e5 r.1 (gL [aA,cY,s6,sn,sU,sa])⟩,vB r.2]⟩ ∧ SH M (fpl [eI a6 c_.cS ac,eI a6 c_.gt a7]) w [eO 213 au r.1.aC aA,eO 36 bf r.1.bl cY,eI a6 r.1.aB.az.Value s6,eO 39 ak r.1.aB.a8 sn,eO 55 (Ty.sl tS) r.1.aQ sU,eO 42 aJ r.1.aF sa] w'):=⟨Tryz.call44 _,uX M m   c_ r hm w hS⟩

def lW (kind : Int) : Bool :=
  lt (cond (cond (kind == 2) true (kind == 3)) true (kind == 4)) fun x3 =>
  x3
theorem tL  (kind : Int) : Ret Tryz.prog 45 ⟨[vU kind]⟩ (vB (lW kind)):=by
 generalize hm : lW kind = r
 rw [lW] at hm
 refine f_pure (Tryz.call45 _) Tryz.func45 Tryz.ntmps45 fun M X w => ?_
 refine t_r [0] [vU kind] [] ?_
 obtain ⟨x3,hx3,hm⟩:=letE hm
 refine t_r [2] [vB x3] [] ?_ (he:=by subst hx3; kernel_rfl)
 refine t_ret ?_
 subst hm
 exact t_n [] rs1

def vm (gf : (List ae) → Bool → Int → Option ((List aS) × Int)) : Prop:=∀ (af : Gh) (M : Av) (v_ : List ae) (top : Bool) (room : Int) (r : (List aS) × Int),gf v_ top room = some r → ∀ w,S0 M [eI a6 v_ af] w → Calls Tryz.prog 26 ⟨[vL af v_,vB top,vI room]⟩ w (fun e w' => ∃ v,e = .returned v ∧ ∃ (aA : Gh),v = vW [vL aA r.1,vI r.2] ∧ SH M (fpl [eI a6 v_ af]) w [eO 42 aJ r.1 aA] w')
def ly (m : Nat) (y7 : List aU) (pf : (List ae) → Bool → Int → Option ((List aS) × Int)) : Nat → Int → (List aS) → Int → Option (Int × (List aS))
  | 0,_,_,_ => none
  | kk + 1,v18,v19,v21 =>
    lt (cond (decide (v21 < (ln y7))) (decide (0 < v18)) false) fun x22 =>
    cond x22 (
    Option.bind (
    chk (0 ≤ v21 ∧ v21 < ln y7) <|
    Option.bind (oQ m (gi y7 v21)) fun y31 =>
    cond (!y31.2) (
    some (v18,v19)) (
    Option.bind (
    cond (lW y31.1.aj) (
    Option.bind (pf ((gi y7 v21).gt) false (w64 (v18 - 1))) fun y65 =>
    some (y65.2,y65.1)) (
    some (w64 (v18 - 1),y31.1.aF))) fun (z59 : Int × (List aS)) =>
    chk (ln v19 + ln ([(aS.mk y31.1.aj y31.1.aC y31.1.bl y31.1.aB y31.1.aQ z59.2)] : List aS) ≤ 137438953472) <|
    lt (v19 ++ ([(aS.mk y31.1.aj y31.1.aC y31.1.bl y31.1.aB y31.1.aQ z59.2)] : List aS)) fun q86 =>
    some (z59.1,q86))) fun (z25 : Int × (List aS)) =>
    ly m y7 pf kk z25.1 z25.2 (w64 (v21 + 1))) (
    some (v18,v19))
def kQ (m : Nat) : Nat → (List ae) → Bool → Int → Option ((List aS) × Int)
  | 0,_,_,_ => none
  | k + 1,v_,top,room =>
    Option.bind (lP m v_ top) fun y7 =>
    Option.bind (
    ly m y7 (kQ m k) m room ([] : List aS) 0) fun (z14 : Int × (List aS)) =>
    some (z14.2,z14.1)
theorem vt (m : Nat) : ∀ (k : Nat),vm (kQ m  k):=by
 intro k
 induction k with
 | zero => intro af M v_ top room r hm; exact noneE hm
 | succ k ih =>
  intro af M v_ top room r hm w hS
  rw [kQ] at hm
  have hS0 : SH M (fpl [eI a6 v_ af]) w [eI a6 v_ af] w:=hS
  generalize hX : fpl [eI a6 v_ af] = X at hS0 ⊢
  clear hS hX
  have hS:=hS0
  clear hS0
  refine calls_entryP Tryz.func26 rfl Tryz.ntmps26 rfl fun _ H => ?_
  refine t_in H hS ?_
  refine t_r [0,1,2] [vL af v_,vB top,vI room] [] ?_
  refine t_r [0,1,2,8] [vL af v_,vB top,vI room,vO] [] (t_starts ?_)
  refine t_b 2 [2,8,13,14] [vI room,vO,vL af v_,vB top] [] ?_
  obtain ⟨y7,hy7,hm⟩:=bindE hm
  refine t_c [0] [0] [2,8] [vI room,vO] (qj (af:=af) m _ _ _ hy7) fun g8 => ?_
  refine t_b 4 [2,8,9] [vI room,vO,vL g8 y7] [] (t_end (t_sel [0] ?_))
  obtain ⟨z14,hz,hm⟩:=bindE hm
  refine t_cutg [2,8] (fun (rL : Gh) => [vI z14.1,vL rL z14.2]) (fun rL => [eO 42 aJ z14.2 rL,eO 108 bL y7 g8]) ?_ ?_
  ·replace hm:=hz
   refine t_r [2,8,9,10] [vI room,vO,vL g8 y7,vI 0] [] (t_block ?_)
   refine t_nil 42 aJ ?_
   intro _ _ H16 hS
   refine w_loop (fun kk a' w' => ∃ (v18 : Int) (v19 : List aS) (v21 : Int) (g20 : Gh),ly m y7 (kQ m k) kk v18 v19 v21 = some _ ∧ Fr 58 (fS [9,2,8,10] [vL g8 y7,vI v18,vL g20 v19,vI v21]) a' ∧ SH M X w [eO 42 aJ v19 g20,eO 108 bL y7 g8] w') ⟨_,room,([] : List aS),0,Gh.nil,hm,FrG.keep (ks:=[9,2,8,10]) H16 (by kernel_rfl),hS⟩ ?_
   clear hm H16 hS
   rintro kk _ _ ⟨v18,v19,v21,g20,hm,H,hS⟩
   cases kk with
   | zero => exact noneE hm
   | succ kk =>
    rw [ly] at hm
    refine t_in H hS (t_seq ?_)
    obtain ⟨x22,hx22,hm⟩:=letE hm
    refine t_r [2,8,9,10,23] [vI v18,vL g20 v19,vL g8 y7,vI v21,vB x22] [] ?_ (he:=by subst hx22; kernel_rfl)
    refine t_im hm (fun hm => ?_) (fun hm => ?c98)
    case c98 =>
     refine t_exit ?_
     obtain rfl:=someE hm
     exact t_eg g20 [2,8]
    refine t_skip ?_
    obtain ⟨z25,hz,hm⟩:=bindE hm
    refine t_cutg [9,10,2,8] (fun (g94 : Gh) => [vL g8 y7,vI v21,vI z25.1,vL g94 z25.2]) (fun g94 => [eO 42 aJ z25.2 g94,eO 108 bL y7 g8]) ?_ ?_
    ·replace hm:=hz
     refine t_block (t_starts ?_)
     obtain ⟨ho26,hm⟩:=chkE hm
     refine t_b 4 [2,8,9,10,30] [vI v18,vL g20 v19,vL g8 y7,vI v21,.agg ⟨e8 (gi y7 v21) (g8.s (v21).toNat)⟩] [kI 1 ho26,⟨some (.agg ⟨e8 (gi y7 v21) (g8.s (v21).toNat)⟩),fun wz => V.atN (ab g8.a) (ao g8.a + (v21).toNat * 4) (e8 (gi y7 v21) (g8.s (v21).toNat)) 0 wz,fun _ hS => ((hS.osl 1 rfl).atA ho26 0 rfl)⟩] ?_
     intro _ _ H28 hS
     replace hS:=hS.addIm (pW ((hS.ow 1 rfl).el ho26))
     replace hS:=hS.addIm (lU ((hS.ow 2 rfl).el ho26))
     obtain ⟨y31,hy31,hm⟩:=bindE hm
     have hd:=hS.hand [1,0] [0,1,2,3] rfl rfl
     refine m_stp [31,2,8,9,10] (fS [2,8,9,10] [vI v18,vL g20 v19,vL g8 y7,vI v21]) H28 rfl rfl rfl rfl (o_callx H28 rfl rfl (ul (ac:=(g8.s (v21).toNat 0)) (a7:=(g8.s (v21).toNat 1)) m _ _ hy31 _ _ hd)) (fun _ => rfl) fun _ _ v H45 hq => ?_
     obtain ⟨g32,g34,g36,g38,g40,g42,rfl,hq⟩:=hq
     replace hS:=hS.join [1,0] [0,1,2,3] rfl rfl hq
     refine t_in H45 hS ?_
     refine t_b 8 [2,8,9,10,32,33] [vI v18,vL g20 v19,vL g8 y7,vI v21,.agg ⟨e5 y31.1 (gL [g32,g34,g36,g38,g40,g42])⟩,vB y31.2] [] ?_
     refine t_m [] [0,1,2,3,4,5,6,7,8,9] [2,8,9,10,32,33] [vI v18,vL g20 v19,vL g8 y7,vI v21,.agg ⟨e5 y31.1 (gL [g32,g34,g36,g38,g40,g42])⟩,vB y31.2] (fun _ _ H47 hd => o_alloc [vU 0,vO,vO,vU 0,vN,vI 0,vN,vO,vF,vO,vO,vO] (z:=vG [vU 0,vO,vO,vU 0,vN,vI 0,vN,vO,vF,vO,vO,vO]) hd (by kernel_rfl) rfl) fun b48 => ?_
     refine t_m0 [0] [1,2,3,4,5,6,7,8,9,10] [2,8,9,10,11,33] [vI v18,vL g20 v19,vL g8 y7,vI v21,vP b48,vB y31.2] (fun _ _ H50 hd => o_store (e5 y31.1 (gL [g32,g34,g36,g38,g40,g42])) H50 hd rfl rfl (by kernel_rfl) rfl rfl rfl) ?_
     refine t_b 11 [2,8,9,10,11,12] [vI v18,vL g20 v19,vL g8 y7,vI v21,vP b48,vB y31.2] [] (t_end (t_sel [0,1,2,3,4,5,6,9,10] (t_seq ?_)))
     refine t_r [2,8,9,10,11,35] [vI v18,vL g20 v19,vL g8 y7,vI v21,vP b48,vB (!y31.2)] [] ?_
     refine t_im hm (fun hm => ?c93) (fun hm => ?_)
     case c93 =>
      refine t_exit ?_
      obtain rfl:=someE hm
      refine t_sel [7,8] ?_
      exact t_eg g20 [9,10,2,8]
     refine t_skip ?_
     refine t_r [2,8,9,10,11] [vI (w64 (v18 - 1)),vL g20 v19,vL g8 y7,vI v21,vP b48] [] ?_
     obtain ⟨z59,hz,hm⟩:=bindE hm
     refine t_cutg [8,9,10,11,2] (fun (g77 : Gh) => [vL g20 v19,vL g8 y7,vI v21,vP b48,vI z59.1]) (fun g77 => [eO 42 aJ z59.2 g77,eB b48 [vU y31.1.aj,vL g32 y31.1.aC,vL g34 y31.1.bl,vU y31.1.aB.aj,vS y31.1.aB.bA,vI y31.1.aB.Num,vS y31.1.aB.az.bA,vL g36 y31.1.aB.az.Value,vB y31.1.aB.az.bK,vL g38 y31.1.aB.a8,vL g40 y31.1.aQ,vL g77 z59.2],eO 213 au y31.1.aC g32,eO 36 bf y31.1.bl g34,eI a6 y31.1.aB.az.Value g36,eO 39 ak y31.1.aB.a8 g38,eO 55 (Ty.sl tS) y31.1.aQ g40,eO 42 aJ v19 g20,eO 108 bL y7 g8]) ?_ ?_
     ·replace hm:=hz
      refine t_r [2,8,9,10,11,40] [vI (w64 (v18 - 1)),vL g20 v19,vL g8 y7,vI v21,vP b48,vB (lW y31.1.aj)] [kb 0 0,kc (tL y31.1.aj)] ?_
      refine t_im hm (fun hm => ?_) (fun hm => ?c76)
      case c76 =>
       refine t_skip ?_
       obtain rfl:=someE hm
       refine t_sel [6,0,1,2,3,4,5,7,8] ?_
       exact t_eg g42 [8,9,10,11,2]
      refine t_start ?_
      refine t_b 6 [8,9,10,11,46,47] [vL g20 v19,vL g8 y7,vI v21,vP b48,.slice (g8.s (v21).toNat 1).a (((gi y7 v21).gt).length) (g8.s (v21).toNat 1).c,vI (w64 (v18 - 1))] [kI 8 ho26,kJ 8 2 ho26] ?_
      intro _ _ H63 hS
      replace hS:=hS.addIm (lU ((hS.ow 8 rfl).el ho26))
      obtain ⟨y65,hy65,hm⟩:=bindE hm
      refine t_in H63 hS ?_
      refine t_m [0] [0,1,2,3,4,5,6,7,8,9] [8,9,10,11] [vL g20 v19,vL g8 y7,vI v21,vP b48] (fun _ _ H63 hd => o_callx H63 rfl rfl (⟨Tryz.call26 _,ih ((g8.s (v21).toNat 1)) _ _ _ _ _ hy65 _ hd⟩ : DoesX _ _ _ _ _)) fun g66 => ?_
      refine t_b 11 [8,9,10,11,49,50,51] [vL g20 v19,vL g8 y7,vI v21,vP b48,vL g66 y65.1,vI y65.2,vA b48 11] [] ?_
      refine t_m0 [2] [0,1,3,4,5,6,7,8,9,10] [8,9,10,11,50] [vL g20 v19,vL g8 y7,vI v21,vP b48,vI y65.2] (fun _ _ H71 hd => o_store [vU y31.1.aj,vL g32 y31.1.aC,vL g34 y31.1.bl,vU y31.1.aB.aj,vS y31.1.aB.bA,vI y31.1.aB.Num,vS y31.1.aB.az.bA,vL g36 y31.1.aB.az.Value,vB y31.1.aB.az.bK,vL g38 y31.1.aB.a8,vL g40 y31.1.aQ,vL g66 y65.1] H71 hd rfl rfl (by kernel_rfl) rfl rfl rfl) ?_
      refine t_b 13 [2,8,9,10,11] [vI y65.2,vL g20 v19,vL g8 y7,vI v21,vP b48] [] (t_end (t_sel [0,1,3,4,5,6,7,8,9,10] ?_))
      obtain rfl:=someE hm
      refine t_sel [1,0,2,3,4,5,6,8,9] ?_
      exact t_eg g66 [8,9,10,11,2]
     ·intro g77
      refine t_start ?_
      refine t_b 2 [2,9,10,52,53] [vI z59.1,vL g8 y7,vI v21,vL g20 v19,vG [vU y31.1.aj,vL g32 y31.1.aC,vL g34 y31.1.bl,vU y31.1.aB.aj,vS y31.1.aB.bA,vI y31.1.aB.Num,vS y31.1.aB.az.bA,vL g36 y31.1.aB.az.Value,vB y31.1.aB.az.bK,vL g38 y31.1.aB.a8,vL g40 y31.1.aQ,vL g77 z59.2]] [kE 1 12] ?_
      refine t_frz [2,0,1,3,4,5,6,7,8] ?_
      refine t_frz [3,0,1,2,4,5,6,7,8] ?_
      refine t_frz [5,0,1,2,3,4,6,7,8] ?_
      refine t_frz [6,0,1,2,3,4,5,7,8] ?_
      refine t_frz [4,0,1,2,3,5,6,7,8] ?_
      refine t_m [4,3,6,2,1,0] [0,1,2,3,4,5,6,7,8] [2,9,10,52] [vI z59.1,vL g8 y7,vI v21,vL g20 v19] (fun _ _ H80 hd => o_li (T:=aJ) (E:=42) (zv:=vG [vU 0,vO,vO,vU 0,vN,vI 0,vN,vO,vF,vO,vO,vO]) [vU y31.1.aj,vL g32 y31.1.aC,vL g34 y31.1.bl,vU y31.1.aB.aj,vS y31.1.aB.bA,vI y31.1.aB.Num,vS y31.1.aB.az.bA,vL g36 y31.1.aB.az.Value,vB y31.1.aB.az.bK,vL g38 y31.1.aB.a8,vL g40 y31.1.aQ,vL g77 z59.2] ([(aS.mk y31.1.aj y31.1.aC y31.1.bl y31.1.aB y31.1.aQ z59.2)] : List aS) [gL [g32,g34,g36,g38,g40,g77]] H80 hd rfl (InnL.cons (rh (hd.im 0 rfl) (hd.im 1 rfl) (hd.im 2 rfl) (hd.im 3 rfl) (hd.im 4 rfl) (hd.im 5 rfl)) InnL.nil)) fun g81 => ?_
      obtain ⟨ho85,hm⟩:=chkE hm
      obtain ⟨q86,hq86,hm⟩:=letE hm
      refine t_m [8,0] [1,2,3,4,5,6,7,9] [2,9,10] [vI z59.1,vL g8 y7,vI v21] (fun _ _ H84 hd => o_app2 (T:=aJ) (zv:=vG [vU 0,vO,vO,vU 0,vN,vI 0,vN,vO,vF,vO,vO,vO]) (g1:=g20) (g2:=g81) (l1:=v19) (l2:=([(aS.mk y31.1.aj y31.1.aC y31.1.bl y31.1.aB y31.1.aQ z59.2)] : List aS)) q86 hq86.symm H84 hd rfl rfl rfl rfl rfl rfl rfl (by kernel_rfl) (by kernel_rfl) rfl rfl ho85) fun g89 => ?_
      refine t_b 5 [2,8,9,10] [vI z59.1,vL g89 q86,vL g8 y7,vI v21] [] (t_end (t_sel [0,9] ?_))
      obtain rfl:=someE hm
      exact t_eg g89 [9,10,2,8]
    ·intro g94
     refine t_w [2,8,9,10] [vI z25.1,vL g94 z25.2,vL g8 y7,vI (w64 (v21 + 1))] [] ?_
     exact fun _ _ H96 hS => ⟨_,Nat.lt_succ_self _,z25.1,z25.2,w64 (v21 + 1),g94,hm,FrG.keep (ks:=[9,2,8,10]) H96 (by kernel_rfl),hS⟩
  ·intro rL
   refine t_sel [0] ?_
   refine t_r [6,7] [vL rL z14.2,vI z14.1] [] (t_ret ?_)
   obtain rfl:=someE hm
   exact t_g rL [0] rs2
def tT (m : Nat) (v_ : List ae) (top : Bool) (room : Int) : Option ((List aS) × Int):=kQ m  m v_ top room
theorem uy {af : Gh} (m : Nat) (v_ : List ae) (top : Bool) (room : Int) (r : (List aS) × Int) (hm : tT m v_ top room = some r) (M : Av) (w : World) (hS : S0 M [eI a6 v_ af] w) : DoesX Tryz.prog 26 ⟨[vL af v_,vB top,vI room]⟩ w (fun v w' => ∃ (aA : Gh),v = vW [vL aA r.1,vI r.2] ∧ SH M (fpl [eI a6 v_ af]) w [eO 42 aJ r.1 aA] w'):=⟨Tryz.call26 _,vt m   m af M v_ top room r hm w hS⟩

structure hZ where
  aF : List aS
instance : Inhabited hZ:=⟨⟨default⟩⟩
def wb : Ty hZ where
  z:=1
  enc:=fun x g => [.slice (g 0).a x.aF.length (g 0).c]
  inn:=fun M w x g => SlG aJ M w x.aF (g 0) ∧ True
  len:=fun _ _ => rfl
  one:=fun _ _ => rfl
  kp:=fun h k hX => ⟨h.1.kp k hX,trivial⟩
  anti:=fun h hM => ⟨h.1.anti hM,trivial⟩
  fresh:=fun h => ⟨h.1.fresh,trivial⟩
theorem wF {M : Av} {w : World} {x : hZ} {g : Nat → Gh} (h : wb.inn M w x g) : SlG aJ M w x.aF (g 0):=(show SlG aJ M w x.aF (g 0) ∧ True from h).1
theorem wG {M : Av} {w : World} {x : hZ} {g : Nat → Gh} (h0 : SlG aJ M w x.aF (g 0)) : wb.inn M w x g:=show SlG aJ M w x.aF (g 0) ∧ True from ⟨h0,trivial⟩
def sN (m : Nat) (s : Str) : Option (hZ × Int) :=
  Option.bind (pE m s) fun y8 =>
  cond (y8.2 != 0) (
  none) (
  Option.bind (tT m y8.1 true 64) fun y19 =>
  some ((hZ.mk y19.1),0))
theorem vi  (m : Nat) (s : Str) (r : hZ × Int) (hm : sN m s = some r) : DoesM Tryz.prog 13 ⟨[vS s]⟩ [] (fun (aA : Gh) => vW [vG [vL aA r.1.aF],vI r.2]) (fun aA => [eO 42 aJ r.1.aF aA]):=by
 rw [sN] at hm
 refine f_mem (Tryz.call13 _) Tryz.func13 Tryz.ntmps13 fun M X w => (t_starts ?_)
 refine t_m [] [] [0] [vS s] (fun _ _ H hd => o_alloc [vO] (z:=vG [vO]) hd (by kernel_rfl) rfl) fun b1 => ?_
 refine t_b 2 [0,2] [vS s,vP b1] [] (t_end (t_starts ?_))
 refine t_b 1 [2,9] [vP b1,vS s] [] ?_
 obtain ⟨y8,hy8,hm⟩:=bindE hm
 refine t_c [] [0] [2] [vP b1] (tl m _ _ hy8) fun g9 => ?_
 refine t_b 7 [2,4,5] [vP b1,vL g9 y8.1,vI y8.2] [] (t_end (t_seq ?_))
 refine t_r [2,4,5,14] [vP b1,vL g9 y8.1,vI y8.2,vB (y8.2 != 0)] [] ?_
 refine t_i2 hm (fun hm => ?_)
 refine t_skip (t_starts ?_)
 refine t_b 1 [2,18] [vP b1,vL g9 y8.1] [] ?_
 refine t_frz [0,1] ?_
 obtain ⟨y19,hy19,hm⟩:=bindE hm
 refine t_c [0] [0,1] [2] [vP b1] (uy (af:=g9) m _ _ _ _ hy19) fun g20 => ?_
 refine t_b 7 [2,6] [vP b1,vL g20 y19.1] [] (t_end (t_sel [0,2] (t_starts ?_)))
 refine t_b 2 [2,23] [vP b1,vG [vL g20 y19.1]] [] ?_
 refine t_m0 [1] [0] [2] [vP b1] (fun _ _ H27 hd => o_store [vL g20 y19.1] H27 hd rfl rfl (by kernel_rfl) rfl rfl rfl) ?_
 refine t_b 4 [2,3] [vP b1,vI 0] [] (t_end (t_ret ?_))
 obtain rfl:=someE hm
 exact t_g g20 [1] (rsav 0 Tryz.underlying28)

structure bM where
  ed : Int
  bj : hZ
instance : Inhabited bM:=⟨⟨default,default⟩⟩
def bx : Ty bM where
  z:=2
  enc:=fun x g => [vU x.ed,.slice (g 0).a x.bj.aF.length (g 0).c]
  inn:=fun M w x g => SlG aJ M w x.bj.aF (g 0) ∧ True
  len:=fun _ _ => rfl
  one:=fun _ _ => rfl
  kp:=fun h k hX => ⟨h.1.kp k hX,trivial⟩
  anti:=fun h hM => ⟨h.1.anti hM,trivial⟩
  fresh:=fun h => ⟨h.1.fresh,trivial⟩
theorem cF {M : Av} {w : World} {x : bM} {g : Nat → Gh} (h : bx.inn M w x g) : SlG aJ M w x.bj.aF (g 0):=(show SlG aJ M w x.bj.aF (g 0) ∧ True from h).1
theorem ge {M : Av} {w : World} {x : bM} {g : Nat → Gh} (h0 : SlG aJ M w x.bj.aF (g 0)) : bx.inn M w x g:=show SlG aJ M w x.bj.aF (g 0) ∧ True from ⟨h0,trivial⟩
def rk (m : Nat) (bv : Int) (s : Str) : Option (bM) :=
  Option.bind (sN m s) fun y6 =>
  some (bM.mk bv y6.1)
theorem ni  (m : Nat) (bv : Int) (s : Str) (r : bM) (hm : rk m bv s = some r) : DoesM Tryz.prog 7 ⟨[vU bv,vS s]⟩ [] (fun (aA : Gh) => vG [vU r.ed,vL aA r.bj.aF]) (fun aA => [eO 42 aJ r.bj.aF aA]):=by
 rw [rk] at hm
 refine f_mem (Tryz.call7 _) Tryz.func7 Tryz.ntmps7 fun M X w => (t_starts ?_)
 refine t_m [] [] [0,1] [vU bv,vS s] (fun _ _ H hd => o_alloc [vU 0,vO] (z:=vG [vU 0,vO]) hd (by kernel_rfl) rfl) fun b1 => (t_end (t_starts ?_))
 refine t_b 1 [0,4,8] [vU bv,vP b1,vS s] [] ?_
 obtain ⟨y6,hy6,hm⟩:=bindE hm
 refine t_c [] [0] [0,4] [vU bv,vP b1] (vi m _ _ hy6) fun g7 => ?_
 refine t_b 5 [0,4,10,11] [vU bv,vP b1,vG [vL g7 y6.1.aF],vI y6.2] [] ?_
 refine t_m [] [0,1] [0,4,10,11] [vU bv,vP b1,vG [vL g7 y6.1.aF],vI y6.2] (fun _ _ H12 hd => o_alloc [vO] (z:=vG [vO]) hd (by kernel_rfl) rfl) fun b13 => ?_
 refine t_m0 [0] [1,2] [0,4,5,11] [vU bv,vP b1,vP b13,vI y6.2] (fun _ _ H15 hd => o_store [vL g7 y6.1.aF] H15 hd rfl rfl (by kernel_rfl) rfl rfl rfl) ?_
 refine t_b 8 [0,4,5] [vU bv,vP b1,vP b13] [] (t_end (t_starts ?_))
 refine t_b 3 [4,14] [vP b1,vG [vU bv,vL g7 y6.1.aF]] [kE 0 1] ?_
 refine t_m0 [2] [0,1] [4] [vP b1] (fun _ _ H21 hd => o_store [vU bv,vL g7 y6.1.aF] H21 hd rfl rfl (by kernel_rfl) rfl rfl rfl) (t_end (t_sel [0,2] (t_ret ?_)))
 obtain rfl:=someE hm
 exact t_g g7 [1] (rsa 0 Tryz.underlying30)

def cR (m : Nat) (s : Str) : Option (List bM) :=
  Option.bind (rk m 3 s) fun y5 =>
  some ([y5] : List bM)
theorem dh  (m : Nat) (s : Str) (r : List bM) (hm : cR m s = some r) : DoesM Tryz.prog 5 ⟨[vS s]⟩ [] (fun (aA : Gh) => vL aA r) (fun aA => [eO 30 bx r aA]):=by
 rw [cR] at hm
 refine f_mem (Tryz.call5 _) Tryz.func5 Tryz.ntmps5 fun M X w => ?_
 refine t_r [0] [vS s] [] (t_starts ?_)
 refine t_b 1 [3] [vS s] [] ?_
 obtain ⟨y5,hy5,hm⟩:=bindE hm
 refine t_c [] [] [] [] (ni m _ _ _ hy5) fun g6 => ?_
 refine t_frz [0] ?_
 refine t_m [0] [0] [] [] (fun _ _ H9 hd => o_li (T:=bx) (E:=30) (zv:=vG [vU 0,vO]) [vU y5.ed,vL g6 y5.bj.aF] ([y5] : List bM) [gL [g6]] H9 hd rfl (InnL.cons (ge (hd.im 0 rfl)) InnL.nil)) fun g10 => ?_
 refine t_b 4 [2] [vK g10 1] [] (t_end (t_sel [0] (t_ret ?_)))
 obtain rfl:=someE hm
 exact t_g g10 [0] rs1

theorem wD (x0 : Str) (x1 : Int) (w : World) : RetB Tryz.prog 239 ⟨[vS x0,vU x1]⟩ (vI (nIndexByte x0 x1)) w:=nat_IndexByteString Tryz.func239 (by kernel_rfl) rfl (by kernel_rfl) (by kernel_rfl) _ _ w

structure iu where
  ct : Int
instance : Inhabited iu:=⟨⟨default⟩⟩
def wS : Ty iu where
  z:=1
  enc:=fun x g => [vI x.ct]
  inn:=fun _ _ _ _ => True
  len:=fun _ _ => rfl
  one:=fun _ _ => rfl
  kp:=fun _ _ _ => trivial
  anti:=fun _ _ => trivial
  fresh:=fun _ => trivial
structure eu where
  rules : Int
  depth : Int
  bad : Bool
instance : Inhabited eu:=⟨⟨default,default,default⟩⟩
def tv : Ty eu where
  z:=3
  enc:=fun x g => [vI x.rules,vI x.depth,vB x.bad]
  inn:=fun _ _ _ _ => True
  len:=fun _ _ => rfl
  one:=fun _ _ => rfl
  kp:=fun _ _ _ => trivial
  anti:=fun _ _ => trivial
  fresh:=fun _ => trivial
def e15 (x : eu) : List Value:=tv.enc x (gL [])
def stringslite_IndexByte (s : Str) (c_ : Int) : Int :=
  (nIndexByte s c_)
theorem n3  (s : Str) (c_ : Int) : Ret Tryz.prog 196 ⟨[vS s,vU c_]⟩ (vI (stringslite_IndexByte s c_)):=by
 generalize hm : stringslite_IndexByte s c_ = r
 rw [stringslite_IndexByte] at hm
 refine f_pure (Tryz.call196 _) Tryz.func196 Tryz.ntmps196 fun M X w => ?_
 refine t_r [0,1] [vS s,vU c_] [] ?_
 refine t_r [4] [vI (nIndexByte s c_)] [⟨some (vI (nIndexByte s c_)),rB 239 [vS s,vU c_] (vI (nIndexByte s c_)),fun _ _ => (wD _ _ _)⟩] (t_ret ?_)
 subst hm
 exact t_n [] rs1

def strings_IndexByte (s : Str) (c_ : Int) : Int :=
  (stringslite_IndexByte s c_)
theorem eV  (s : Str) (c_ : Int) : Ret Tryz.prog 132 ⟨[vS s,vU c_]⟩ (vI (strings_IndexByte s c_)):=by
 generalize hm : strings_IndexByte s c_ = r
 rw [strings_IndexByte] at hm
 refine f_pure (Tryz.call132 _) Tryz.func132 Tryz.ntmps132 fun M X w => ?_
 refine t_r [0,1] [vS s,vU c_] [] ?_
 refine t_r [4] [vI (stringslite_IndexByte s c_)] [kc (n3 s c_)] (t_ret ?_)
 subst hm
 exact t_n [] rs1

def iC (s : Str) : Bool :=
  lt (cond (s == []) true (decide (64 < (ln s)))) fun x3 =>
  lt (cond x3 true (decide (0 ≤ (strings_IndexByte s 0)))) fun x4 =>
  x4
theorem qF  (s : Str) : Ret Tryz.prog 131 ⟨[vS s]⟩ (vB (iC s)):=by
 generalize hm : iC s = r
 rw [iC] at hm
 refine f_pure (Tryz.call131 _) Tryz.func131 Tryz.ntmps131 fun M X w => ?_
 refine t_r [0] [vS s] [] ?_
 obtain ⟨x3,hx3,hm⟩:=letE hm
 obtain ⟨x4,hx4,hm⟩:=letE hm
 refine t_r [2] [vB x4] [kgc (x3 = false ∧ True) fun hg => (eV s 0)] ?_ (he:=by subst hx3 hx4; kernel_rfl)
 refine t_ret ?_
 subst hm
 exact t_n [] rs1

def d7 (m : Nat) (s : List Str) : Nat → Int → Option (Unit)
  | 0,_ => none
  | kk + 1,v6 =>
    cond (decide (v6 < (ln s))) (
    chk (0 ≤ v6 ∧ v6 < ln s) <|
    cond (iC (gi s v6)) (
    none) (
    d7 m s kk (w64 (v6 + 1)))) (
    some ())
def eD (m : Nat) (s : List Str) : Option (Int) :=
  Option.bind (
  d7 m s m 0) fun (z3 : Unit) =>
  some (-1)
theorem iF {g_s : Gh} (m : Nat) (s : List Str) (r : Int) (hm : eD m s = some r) (w : World) (hL : S0 F0 [eI tS s g_s] w ∧ fpl [eI tS s g_s] = []) : RetB Tryz.prog 195 ⟨[vL g_s s,.func (.func 131) ⟨[]⟩ ⟨[]⟩]⟩ (vI r) w:=by
 rw [eD] at hm
 refine f_read hL (Tryz.call195 _) Tryz.func195 Tryz.ntmps195 fun M X w => ?_
 refine t_r [0,1] [vL g_s s,.func (.func 131) ⟨[]⟩ ⟨[]⟩] [] ?_
 obtain ⟨z3,hz,hm⟩:=bindE hm
 refine t_cut [] [] [eI tS s g_s] ?_ ?_
 ·replace hm:=hz
  refine t_r [0,1,7,8] [vL g_s s,.func (.func 131) ⟨[]⟩ ⟨[]⟩,vI (ln s),vI 0] [] (t_block ?_)
  intro _ _ H5 hS
  refine w_loop (fun kk a' w' => ∃ (v6 : Int),d7 m s kk v6 = some _ ∧ Fr 19 (fS [0,1,7,8] [vL g_s s,.func (.func 131) ⟨[]⟩ ⟨[]⟩,vI (ln s),vI v6]) a' ∧ SH M X w [eI tS s g_s] w') ⟨_,0,hm,FrG.keep (ks:=[0,1,7,8]) H5 (by kernel_rfl),hS⟩ ?_
  clear hm H5 hS
  rintro kk _ _ ⟨v6,hm,H,hS⟩
  cases kk with
  | zero => exact noneE hm
  | succ kk =>
   rw [d7] at hm
   refine t_in H hS ?_
   refine t_r [0,1,7,8,9] [vL g_s s,.func (.func 131) ⟨[]⟩ ⟨[]⟩,vI (ln s),vI v6,vB (decide (v6 < (ln s)))] [] (t_seq ?_)
   refine t_im hm (fun hm => ?_) (fun hm => ?c17)
   case c17 =>
    refine t_exit ?_
    obtain rfl:=someE hm
    exact t_e []
   refine t_skip (t_seq (t_block ?_))
   refine t_r [0,1,5,7,8] [vL g_s s,.func (.func 131) ⟨[]⟩ ⟨[]⟩,vI v6,vI (ln s),vI v6] [] ?_
   obtain ⟨ho11,hm⟩:=chkE hm
   refine t_r [0,1,5,7,8,16] [vL g_s s,.func (.func 131) ⟨[]⟩ ⟨[]⟩,vI v6,vI (ln s),vI v6,vB (iC (gi s v6))] [ki 0 ho11,kj 0 0 ho11,kc (qF (gi s v6))] ?_
   refine t_i2 hm (fun hm => ?_)
   refine t_skip ?_
   refine t_w [0,1,7,8] [vL g_s s,.func (.func 131) ⟨[]⟩ ⟨[]⟩,vI (ln s),vI (w64 (v6 + 1))] [] ?_
   exact fun _ _ H15 hS => ⟨_,Nat.lt_succ_self _,w64 (v6 + 1),hm,FrG.keep (ks:=[0,1,7,8]) H15 (by kernel_rfl),hS⟩
 ·refine t_sel [] ?_
  refine t_r [4] [vI (-1)] [] (t_ret ?_)
  obtain rfl:=someE hm
  exact t_n [] rs1

def dT (m : Nat) (s : List Str) : Option (Bool) :=
  Option.bind (eD m s) fun y3 =>
  some (decide (0 ≤ y3))
theorem hD {g_s : Gh} (m : Nat) (s : List Str) (r : Bool) (hm : dT m s = some r) (w : World) (hL : S0 F0 [eI tS s g_s] w ∧ fpl [eI tS s g_s] = []) : RetB Tryz.prog 130 ⟨[vL g_s s,.func (.func 131) ⟨[]⟩ ⟨[]⟩]⟩ (vB r) w:=by
 rw [dT] at hm
 refine f_read hL (Tryz.call130 _) Tryz.func130 Tryz.ntmps130 fun M X w => ?_
 refine t_r [0,1] [vL g_s s,.func (.func 131) ⟨[]⟩ ⟨[]⟩] [] ?_
 obtain ⟨y3,hy3,hm⟩:=bindE hm
 refine t_r [4] [vB (decide (0 ≤ y3))] [kr fun _ hS => iF (g_s:=g_s) m _ _ hy3 _ (s0im s0nil (hS.im 0 rfl))] (t_sel [] (t_ret ?_))
 obtain rfl:=someE hm
 exact t_n [] rs1

def o7 (m : Nat) (l_ : List Str) : Option (Bool) :=
  lt (cond (decide (0 < (ln l_))) (decide ((ln l_) ≤ 16)) false) fun x3 =>
  Option.bind (cond x3 (dT m l_) (some default)) fun y4 =>
  some (cond x3 (!y4) false)
theorem sQ {aa : Gh} (m : Nat) (l_ : List Str) (r : Bool) (hm : o7 m l_ = some r) (w : World) (hL : S0 F0 [eI tS l_ aa] w ∧ fpl [eI tS l_ aa] = []) : RetB Tryz.prog 84 ⟨[vL aa l_]⟩ (vB r) w:=by
 rw [o7] at hm
 refine f_read hL (Tryz.call84 _) Tryz.func84 Tryz.ntmps84 fun M X w => ?_
 refine t_r [0] [vL aa l_] [] ?_
 obtain ⟨x3,hx3,hm⟩:=letE hm
 obtain ⟨y4,hy4,hm⟩:=bindE hm
 refine t_r [2] [vB (cond x3 (!y4) false)] [kgr (x3 = true ∧ True) fun _ hS hg => hD (g_s:=aa) m _ _ (bT (hg.1) hy4) _ (s0im s0nil (hS.im 0 rfl))] ?_ (he:=by subst hx3; kernel_rfl)
 refine t_sel [] (t_ret ?_)
 obtain rfl:=someE hm
 exact t_n [] rs1

def nu (m : Nat) (l_ : List Str) : Option (Bool) :=
  Option.bind (o7 m l_) fun y3 =>
  some (!y3)
theorem rQ {aa : Gh} (m : Nat) (l_ : List Str) (r : Bool) (hm : nu m l_ = some r) (w : World) (hL : S0 F0 [eI tS l_ aa] w ∧ fpl [eI tS l_ aa] = []) : RetB Tryz.prog 83 ⟨[vL aa l_]⟩ (vB r) w:=by
 rw [nu] at hm
 refine f_read hL (Tryz.call83 _) Tryz.func83 Tryz.ntmps83 fun M X w => ?_
 refine t_r [0] [vL aa l_] [] ?_
 obtain ⟨y3,hy3,hm⟩:=bindE hm
 refine t_r [2] [vB (!y3)] [kr fun _ hS => sQ (aa:=aa) m _ _ hy3 _ (s0im s0nil (hS.im 0 rfl))] (t_sel [] (t_ret ?_))
 obtain rfl:=someE hm
 exact t_n [] rs1

def dl (m : Nat) (s : List (List Str)) : Nat → Int → Option (Sum (Int) (Unit))
  | 0,_ => none
  | kk + 1,v6 =>
    cond (decide (v6 < (ln s))) (
    chk (0 ≤ v6 ∧ v6 < ln s) <|
    Option.bind (nu m (gi s v6)) fun y12 =>
    cond y12 (
    some (.inl v6)) (
    dl m s kk (w64 (v6 + 1)))) (
    some (.inr ()))
def eL (m : Nat) (s : List (List Str)) : Option (Int) :=
  Option.bind (
  dl m s m 0) fun (z3 : Sum (Int) (Unit)) => sumK z3 fun s_z3 =>
  some (-1)
theorem iZ {g_s : Gh} (m : Nat) (s : List (List Str)) (r : Int) (hm : eL m s = some r) (w : World) (hL : S0 F0 [eI (Ty.sl tS) s g_s] w ∧ fpl [eI (Ty.sl tS) s g_s] = []) : RetB Tryz.prog 17 ⟨[vL g_s s,.func (.func 83) ⟨[]⟩ ⟨[]⟩]⟩ (vI r) w:=by
 rw [eL] at hm
 refine f_read hL (Tryz.call17 _) Tryz.func17 Tryz.ntmps17 fun M X w => ?_
 refine t_r [0,1] [vL g_s s,.func (.func 83) ⟨[]⟩ ⟨[]⟩] [] ?_
 obtain ⟨z3,hz,hm_z3⟩:=bindE hm
 intro _ _ H2 hS
 refine w_cut (fun a' w' => ∃ s_z3 : Unit,z3 = Sum.inr s_z3 ∧ Fr 19 [] a' ∧ SH M X w [eI (Ty.sl tS) s g_s] w') ?_ ?_
 ·replace hm:=hz
  refine t_in H2 hS ?_
  refine t_r [0,1,7,8] [vL g_s s,.func (.func 83) ⟨[]⟩ ⟨[]⟩,vI (ln s),vI 0] [] (t_block ?_)
  intro _ _ H5 hS
  refine w_loop (fun kk a' w' => ∃ (v6 : Int),dl m s kk v6 = some _ ∧ Fr 19 (fS [0,1,7,8] [vL g_s s,.func (.func 83) ⟨[]⟩ ⟨[]⟩,vI (ln s),vI v6]) a' ∧ SH M X w [eI (Ty.sl tS) s g_s] w') ⟨_,0,hm,FrG.keep (ks:=[0,1,7,8]) H5 (by kernel_rfl),hS⟩ ?_
  clear hm H5 hS
  rintro kk _ _ ⟨v6,hm,H,hS⟩
  cases kk with
  | zero => exact noneE hm
  | succ kk =>
   rw [dl] at hm
   refine t_in H hS ?_
   refine t_r [0,1,7,8,9] [vL g_s s,.func (.func 83) ⟨[]⟩ ⟨[]⟩,vI (ln s),vI v6,vB (decide (v6 < (ln s)))] [] (t_seq ?_)
   refine t_im hm (fun hm => ?_) (fun hm => ?c20)
   case c20 =>
    refine t_exit ?_
    obtain rfl:=someE hm
    exact fun _ _ H8 hS => ⟨_,rfl,FrG.keep (ks:=[]) H8 (by kernel_rfl),hS⟩
   refine t_skip (t_seq (t_block ?_))
   refine t_r [0,1,5,7,8] [vL g_s s,.func (.func 83) ⟨[]⟩ ⟨[]⟩,vI v6,vI (ln s),vI v6] [] ?_
   obtain ⟨ho11,hm⟩:=chkE hm
   obtain ⟨y12,hy12,hm⟩:=bindE hm
   refine t_r [0,1,5,7,8,16] [vL g_s s,.func (.func 83) ⟨[]⟩ ⟨[]⟩,vI v6,vI (ln s),vI v6,vB y12] [ki 0 ho11,kj 0 0 ho11,kr fun _ hS => rQ (aa:=(g_s.s (v6).toNat 0)) m _ _ hy12 _ (s0im s0nil (sl_inn ((hS.im 0 rfl).el ho11)))] ?_
   refine t_im hm (fun hm => ?_) (fun hm => ?c19)
   case c19 =>
    refine t_skip ?_
    refine t_w [0,1,7,8] [vL g_s s,.func (.func 83) ⟨[]⟩ ⟨[]⟩,vI (ln s),vI (w64 (v6 + 1))] [] ?_
    exact fun _ _ H18 hS => ⟨_,Nat.lt_succ_self _,w64 (v6 + 1),hm,FrG.keep (ks:=[0,1,7,8]) H18 (by kernel_rfl),hS⟩
   refine t_r [4] [vI v6] [] (t_ret ?_)
   obtain rfl:=someE hm
   have hm:=hm_z3
   obtain rfl:=someE hm
   exact t_n [] rs1
 ·rintro _ _ ⟨s_z3,hz,H,hS⟩
  subst hz
  replace hm:=sumR hm_z3
  replace hS : SH M X w [] _:=hS.sel [] rfl
  refine t_in H hS ?_
  refine t_r [4] [vI (-1)] [] (t_ret ?_)
  obtain rfl:=someE hm
  exact t_n [] rs1

def eo (m : Nat) (s : List (List Str)) : Option (Bool) :=
  Option.bind (eL m s) fun y3 =>
  some (decide (0 ≤ y3))
theorem ir {g_s : Gh} (m : Nat) (s : List (List Str)) (r : Bool) (hm : eo m s = some r) (w : World) (hL : S0 F0 [eI (Ty.sl tS) s g_s] w ∧ fpl [eI (Ty.sl tS) s g_s] = []) : RetB Tryz.prog 82 ⟨[vL g_s s,.func (.func 83) ⟨[]⟩ ⟨[]⟩]⟩ (vB r) w:=by
 rw [eo] at hm
 refine f_read hL (Tryz.call82 _) Tryz.func82 Tryz.ntmps82 fun M X w => ?_
 refine t_r [0,1] [vL g_s s,.func (.func 83) ⟨[]⟩ ⟨[]⟩] [] ?_
 obtain ⟨y3,hy3,hm⟩:=bindE hm
 refine t_r [4] [vB (decide (0 ≤ y3))] [kr fun _ hS => iZ (g_s:=g_s) m _ _ hy3 _ (s0im s0nil (hS.im 0 rfl))] (t_sel [] (t_ret ?_))
 obtain rfl:=someE hm
 exact t_n [] rs1

def jt (m : Nat) (l_ : List aK) (v9 : Int) (v24 : Int) : Nat → Int → Int → Option (Int)
  | 0,_,_ => none
  | kk + 1,v38,v39 =>
    lt (decide (v39 < (ln ((gi ((gi l_ v9).Parts) v24).aP)))) fun x40 =>
    cond x40 (
    none) (
    some v38)
def gR (m : Nat) (l_ : List aK) (v9 : Int) : Nat → Int → Int → Option (Int)
  | 0,_,_ => none
  | kk + 1,v23,v24 =>
    cond (decide (v24 < (ln ((gi l_ v9).Parts)))) (
    Option.bind (
    chk (0 ≤ v24 ∧ v24 < ln ((gi l_ v9).Parts)) <|
    jt m l_ v9 v24 m v23 0) fun (z27 : Int) =>
    gR m l_ v9 kk z27 (w64 (v24 + 1))) (
    some v23)
def gT (m : Nat) (l_ : List aK) : Nat → Int → Int → Option (Int)
  | 0,_,_ => none
  | kk + 1,v8,v9 =>
    cond (decide (v9 < (ln l_))) (
    Option.bind (
    chk (0 ≤ v9 ∧ v9 < ln l_) <|
    gR m l_ v9 m v8 0) fun (z12 : Int) =>
    gT m l_ kk z12 (w64 (v9 + 1))) (
    some v8)
def m6 (m : Nat) (l_ : List aK) : Option (Int) :=
  Option.bind (
  gT m l_ m 0 0) fun (z5 : Int) =>
  some z5
theorem qb {aa : Gh} (m : Nat) (l_ : List aK) (r : Int) (hm : m6 m l_ = some r) (w : World) (hL : S0 F0 [eI au l_ aa] w ∧ fpl [eI au l_ aa] = []) : RetB Tryz.prog 85 ⟨[vL aa l_]⟩ (vI r) w:=by
 rw [m6] at hm
 refine f_read hL (Tryz.call85 _) Tryz.func85 Tryz.ntmps85 fun M X w => ?_
 refine t_r [0] [vL aa l_] [] ?_
 refine t_r [0,3] [vL aa l_,vI 0] [] ?_
 obtain ⟨z5,hz,hm⟩:=bindE hm
 refine t_cut [3] [vI z5] [eI au l_ aa] ?_ ?_
 ·replace hm:=hz
  refine t_r [3,12,13,14] [vI 0,vL aa l_,vI (ln l_),vI 0] [] (t_block ?_)
  intro _ _ H7 hS
  refine w_loop (fun kk a' w' => ∃ (v8 : Int) (v9 : Int),gT m l_ kk v8 v9 = some _ ∧ Fr 74 (fS [12,13,3,14] [vL aa l_,vI (ln l_),vI v8,vI v9]) a' ∧ SH M X w [eI au l_ aa] w') ⟨_,0,0,hm,FrG.keep (ks:=[12,13,3,14]) H7 (by kernel_rfl),hS⟩ ?_
  clear hm H7 hS
  rintro kk _ _ ⟨v8,v9,hm,H,hS⟩
  cases kk with
  | zero => exact noneE hm
  | succ kk =>
   rw [gT] at hm
   refine t_in H hS ?_
   refine t_r [3,12,13,14,15] [vI v8,vL aa l_,vI (ln l_),vI v9,vB (decide (v9 < (ln l_)))] [] (t_seq ?_)
   refine t_im hm (fun hm => ?_) (fun hm => ?c53)
   case c53 =>
    refine t_exit ?_
    obtain rfl:=someE hm
    exact t_e [3]
   refine t_skip ?_
   obtain ⟨z12,hz,hm⟩:=bindE hm
   refine t_cut [12,13,14,3] [vL aa l_,vI (ln l_),vI v9,vI z12] [eI au l_ aa] ?_ ?_
   ·replace hm:=hz
    refine t_block (t_starts ?_)
    obtain ⟨ho13,hm⟩:=chkE hm
    refine t_b 2 [3,12,13,14,17] [vI v8,vL aa l_,vI (ln l_),vI v9,.agg ⟨e1 (gi l_ v9) (aa.s (v9).toNat)⟩] [ki 0 ho13,⟨some (.agg ⟨e1 (gi l_ v9) (aa.s (v9).toNat)⟩),fun wz => V.atN (ab aa.a) (ao aa.a + (v9).toNat * 3) (e1 (gi l_ v9) (aa.s (v9).toNat)) 0 wz,fun _ hS => ((hS.im 0 rfl).atA ho13 0 rfl)⟩] ?_
    refine t_m [] [0] [3,12,13,14,17] [vI v8,vL aa l_,vI (ln l_),vI v9,.agg ⟨e1 (gi l_ v9) (aa.s (v9).toNat)⟩] (fun _ _ H15 hd => o_alloc [vU 0,vO,vO] (z:=vG [vU 0,vO,vO]) hd (by kernel_rfl) rfl) fun b16 => ?_
    refine t_m0 [0] [1] [3,5,12,13,14] [vI v8,vP b16,vL aa l_,vI (ln l_),vI v9] (fun _ _ H18 hd => o_store (e1 (gi l_ v9) (aa.s (v9).toNat)) H18 hd rfl rfl (by kernel_rfl) rfl rfl rfl) (t_end ?_)
    refine t_r [3,12,13,14,19,20,21] [vI v8,vL aa l_,vI (ln l_),vI v9,.slice (aa.s (v9).toNat 0).a (((gi l_ v9).Parts).length) (aa.s (v9).toNat 0).c,vI (ln ((gi l_ v9).Parts)),vI 0] [kb 0 1] (t_sel [1] (t_block ?_))
    intro _ _ H22 hS
    refine w_loop (fun kk a' w' => ∃ (v23 : Int) (v24 : Int),gR m l_ v9 kk v23 v24 = some _ ∧ Fr 74 (fS [12,13,14,19,20,3,21] [vL aa l_,vI (ln l_),vI v9,.slice (aa.s (v9).toNat 0).a (((gi l_ v9).Parts).length) (aa.s (v9).toNat 0).c,vI (ln ((gi l_ v9).Parts)),vI v23,vI v24]) a' ∧ SH M X w [eI au l_ aa] w') ⟨_,v8,0,hm,FrG.keep (ks:=[12,13,14,19,20,3,21]) H22 (by kernel_rfl),hS⟩ ?_
    clear hm H22 hS
    rintro kk _ _ ⟨v23,v24,hm,H,hS⟩
    cases kk with
    | zero => exact noneE hm
    | succ kk =>
     rw [gR] at hm
     refine t_in H hS ?_
     refine t_r [3,12,13,14,19,20,21,22] [vI v23,vL aa l_,vI (ln l_),vI v9,.slice (aa.s (v9).toNat 0).a (((gi l_ v9).Parts).length) (aa.s (v9).toNat 0).c,vI (ln ((gi l_ v9).Parts)),vI v24,vB (decide (v24 < (ln ((gi l_ v9).Parts))))] [] (t_seq ?_)
     refine t_im hm (fun hm => ?_) (fun hm => ?c48)
     case c48 =>
      refine t_exit ?_
      obtain rfl:=someE hm
      exact t_e [12,13,14,3]
     refine t_skip ?_
     obtain ⟨z27,hz,hm⟩:=bindE hm
     refine t_cut [12,13,14,19,20,21,3] [vL aa l_,vI (ln l_),vI v9,.slice (aa.s (v9).toNat 0).a (((gi l_ v9).Parts).length) (aa.s (v9).toNat 0).c,vI (ln ((gi l_ v9).Parts)),vI v24,vI z27] [eI au l_ aa] ?_ ?_
     ·replace hm:=hz
      refine t_block (t_starts ?_)
      obtain ⟨ho28,hm⟩:=chkE hm
      refine t_b 2 [3,12,13,14,19,20,21,24] [vI v23,vL aa l_,vI (ln l_),vI v9,.slice (aa.s (v9).toNat 0).a (((gi l_ v9).Parts).length) (aa.s (v9).toNat 0).c,vI (ln ((gi l_ v9).Parts)),vI v24,vG [vS (gi ((gi l_ v9).Parts) v24).Tag,.slice ((aa.s (v9).toNat 0).s (v24).toNat 0).a (((gi ((gi l_ v9).Parts) v24).aP).length) ((aa.s (v9).toNat 0).s (v24).toNat 0).c]] [⟨none,fun _ => oka (aa.s (v9).toNat 0).a ∧ 0 ≤ v24 ∧ v24 < ln ((gi l_ v9).Parts),fun _ hS => ((gj ((hS.im 0 rfl).el ho13)).oki ho28)⟩,⟨some (vG [vS (gi ((gi l_ v9).Parts) v24).Tag,.slice ((aa.s (v9).toNat 0).s (v24).toNat 0).a (((gi ((gi l_ v9).Parts) v24).aP).length) ((aa.s (v9).toNat 0).s (v24).toNat 0).c]),fun wz => V.atN (ab (aa.s (v9).toNat 0).a) (ao (aa.s (v9).toNat 0).a + (v24).toNat * 2) [vS (gi ((gi l_ v9).Parts) v24).Tag,.slice ((aa.s (v9).toNat 0).s (v24).toNat 0).a (((gi ((gi l_ v9).Parts) v24).aP).length) ((aa.s (v9).toNat 0).s (v24).toNat 0).c] 0 wz,fun _ hS => ((gj ((hS.im 0 rfl).el ho13)).atA ho28 0 rfl)⟩] ?_
      refine t_m [] [0] [3,12,13,14,19,20,21,24] [vI v23,vL aa l_,vI (ln l_),vI v9,.slice (aa.s (v9).toNat 0).a (((gi l_ v9).Parts).length) (aa.s (v9).toNat 0).c,vI (ln ((gi l_ v9).Parts)),vI v24,vG [vS (gi ((gi l_ v9).Parts) v24).Tag,.slice ((aa.s (v9).toNat 0).s (v24).toNat 0).a (((gi ((gi l_ v9).Parts) v24).aP).length) ((aa.s (v9).toNat 0).s (v24).toNat 0).c]] (fun _ _ H30 hd => o_alloc [vN,vO] (z:=vG [vN,vO]) hd (by kernel_rfl) rfl) fun b31 => ?_
      refine t_m0 [0] [1] [3,7,12,13,14,19,20,21] [vI v23,vP b31,vL aa l_,vI (ln l_),vI v9,.slice (aa.s (v9).toNat 0).a (((gi l_ v9).Parts).length) (aa.s (v9).toNat 0).c,vI (ln ((gi l_ v9).Parts)),vI v24] (fun _ _ H33 hd => o_store [vS (gi ((gi l_ v9).Parts) v24).Tag,.slice ((aa.s (v9).toNat 0).s (v24).toNat 0).a (((gi ((gi l_ v9).Parts) v24).aP).length) ((aa.s (v9).toNat 0).s (v24).toNat 0).c] H33 hd rfl rfl (by kernel_rfl) rfl rfl rfl) (t_end ?_)
      refine t_r [3,12,13,14,19,20,21,26,27,28] [vI v23,vL aa l_,vI (ln l_),vI v9,.slice (aa.s (v9).toNat 0).a (((gi l_ v9).Parts).length) (aa.s (v9).toNat 0).c,vI (ln ((gi l_ v9).Parts)),vI v24,.slice ((aa.s (v9).toNat 0).s (v24).toNat 0).a (((gi ((gi l_ v9).Parts) v24).aP).length) ((aa.s (v9).toNat 0).s (v24).toNat 0).c,vI (ln ((gi ((gi l_ v9).Parts) v24).aP)),vI 0] [kb 0 1] (t_sel [1] (t_block ?_))
      intro _ _ H37 hS
      refine w_loop (fun kk a' w' => ∃ (v38 : Int) (v39 : Int),jt m l_ v9 v24 kk v38 v39 = some _ ∧ Fr 74 (fS [12,13,14,19,20,21,26,27,3,28] [vL aa l_,vI (ln l_),vI v9,.slice (aa.s (v9).toNat 0).a (((gi l_ v9).Parts).length) (aa.s (v9).toNat 0).c,vI (ln ((gi l_ v9).Parts)),vI v24,.slice ((aa.s (v9).toNat 0).s (v24).toNat 0).a (((gi ((gi l_ v9).Parts) v24).aP).length) ((aa.s (v9).toNat 0).s (v24).toNat 0).c,vI (ln ((gi ((gi l_ v9).Parts) v24).aP)),vI v38,vI v39]) a' ∧ SH M X w [eI au l_ aa] w') ⟨_,v23,0,hm,FrG.keep (ks:=[12,13,14,19,20,21,26,27,3,28]) H37 (by kernel_rfl),hS⟩ ?_
      clear hm H37 hS
      rintro kk _ _ ⟨v38,v39,hm,H,hS⟩
      cases kk with
      | zero => exact noneE hm
      | succ kk =>
       rw [jt] at hm
       obtain ⟨x40,hx40,hm⟩:=letE hm
       refine t_in H hS ?_
       refine t_r [3,12,13,14,19,20,21,26,27,28,29] [vI v38,vL aa l_,vI (ln l_),vI v9,.slice (aa.s (v9).toNat 0).a (((gi l_ v9).Parts).length) (aa.s (v9).toNat 0).c,vI (ln ((gi l_ v9).Parts)),vI v24,.slice ((aa.s (v9).toNat 0).s (v24).toNat 0).a (((gi ((gi l_ v9).Parts) v24).aP).length) ((aa.s (v9).toNat 0).s (v24).toNat 0).c,vI (ln ((gi ((gi l_ v9).Parts) v24).aP)),vI v39,vB x40] [] ?_ (he:=by subst hx40; kernel_rfl)
       refine t_seq ?_
       refine t_im hm (fun hm => ?_) (fun hm => ?c43)
       case c43 =>
        refine t_exit ?_
        obtain rfl:=someE hm
        exact t_e [12,13,14,19,20,21,3]
       refine t_skip (t_seq (t_block ?_))
       intro _ _ H42 hS
       exact noneE hm
     ·refine t_w [3,12,13,14,19,20,21] [vI z27,vL aa l_,vI (ln l_),vI v9,.slice (aa.s (v9).toNat 0).a (((gi l_ v9).Parts).length) (aa.s (v9).toNat 0).c,vI (ln ((gi l_ v9).Parts)),vI (w64 (v24 + 1))] [] ?_
      exact fun _ _ H46 hS => ⟨_,Nat.lt_succ_self _,z27,w64 (v24 + 1),hm,FrG.keep (ks:=[12,13,14,19,20,3,21]) H46 (by kernel_rfl),hS⟩
   ·refine t_w [3,12,13,14] [vI z12,vL aa l_,vI (ln l_),vI (w64 (v9 + 1))] [] ?_
    exact fun _ _ H51 hS => ⟨_,Nat.lt_succ_self _,z12,w64 (v9 + 1),hm,FrG.keep (ks:=[12,13,3,14]) H51 (by kernel_rfl),hS⟩
 ·refine t_sel [] ?_
  refine t_r [2] [vI z5] [] (t_ret ?_)
  obtain rfl:=someE hm
  exact t_n [] rs1

structure eT where
  fl : Int
  has : Bool
instance : Inhabited eT:=⟨⟨default,default⟩⟩
def wk : Ty eT where
  z:=2
  enc:=fun x g => [vI x.fl,vB x.has]
  inn:=fun _ _ _ _ => True
  len:=fun _ _ => rfl
  one:=fun _ _ => rfl
  kp:=fun _ _ _ => trivial
  anti:=fun _ _ => trivial
  fresh:=fun _ => trivial
def lF (s : Str) (most : Int) : Bool :=
  lt (cond (decide (most < (ln s))) true (decide (0 ≤ (strings_IndexByte s 0)))) fun x3 =>
  x3
theorem rR  (s : Str) (most : Int) : Ret Tryz.prog 277 ⟨[vS s,vI most]⟩ (vB (lF s most)):=by
 generalize hm : lF s most = r
 rw [lF] at hm
 refine f_pure (Tryz.call277 _) Tryz.func277 Tryz.ntmps277 fun M X w => ?_
 refine t_r [0,1] [vS s,vI most] [] ?_
 obtain ⟨x3,hx3,hm⟩:=letE hm
 refine t_r [4] [vB x3] [kgc ((decide (most < (ln s))) = false ∧ True) fun hg => (eV s 0)] ?_ (he:=by subst hx3; kernel_rfl)
 refine t_ret ?_
 subst hm
 exact t_n [] rs1

def fQ (s : Str) : Bool :=
  lt (cond (!(s == [])) (!(lF s 64)) false) fun x3 =>
  x3
theorem qW  (s : Str) : Ret Tryz.prog 273 ⟨[vS s]⟩ (vB (fQ s)):=by
 generalize hm : fQ s = r
 rw [fQ] at hm
 refine f_pure (Tryz.call273 _) Tryz.func273 Tryz.ntmps273 fun M X w => ?_
 refine t_r [0] [vS s] [] ?_
 obtain ⟨x3,hx3,hm⟩:=letE hm
 refine t_r [2] [vB x3] [kgc ((!(s == [])) = true ∧ True) fun hg => (rR s 64)] ?_ (he:=by subst hx3; kernel_rfl)
 refine t_ret ?_
 subst hm
 exact t_n [] rs1

def ju (m : Nat) (s : Str) : Nat → Int → Option (Unit)
  | 0,_ => none
  | kk + 1,v14 =>
    cond (decide (v14 < (ln (ofB s)))) (
    chk (0 ≤ v14 ∧ v14 < ln (ofB s)) <|
    lt (cond (decide (65 ≤ (gi (ofB s) v14))) (decide ((gi (ofB s) v14) ≤ 90)) false) fun x20 =>
    cond x20 (
    none) (
    ju m s kk (w64 (v14 + 1)))) (
    some ())
def ib (m : Nat) (s : Str) : Option (Str) :=
  Option.bind (
  ju m s m 0) fun (z11 : Unit) =>
  some (toB (ofB s))
theorem h7  (m : Nat) (s : Str) (r : Str) (hm : ib m s = some r) : Ret Tryz.prog 203 ⟨[vS s]⟩ (vS r):=by
 rw [ib] at hm
 refine f_pure (Tryz.call203 _) Tryz.func203 Tryz.ntmps203 fun M X w => ?_
 refine t_r [0] [vS s] [] (t_starts ?_)
 refine t_b 1 [6] [vS s] [] ?_
 intro _ _ H4 hS
 have hd:=hS.hand [] [] rfl rfl
 refine m_stp [7] [] H4 rfl rfl rfl rfl (o_bytes (E:=5) H4 hd rfl (by kernel_rfl) (by kernel_rfl) (by kernel_rfl)) (fun _ => rfl) fun _ _ v H8 hq => ?_
 obtain ⟨b5,c6,rfl,hc_b5,hq⟩:=hq
 replace hS:=hS.join [] [] rfl rfl hq
 refine t_in H8 hS ?_
 refine t_b 3 [3] [.slice (some ⟨b5,0,none⟩) ((ofB s).length) c6] [] (t_end ?_)
 obtain ⟨z11,hz,hm⟩:=bindE hm
 refine t_cut [3] [.slice (some ⟨b5,0,none⟩) ((ofB s).length) c6] [Ent.row .u8 b5 (ofB s) (ln (ofB s))] ?_ ?_
 ·replace hm:=hz
  refine t_r [3,8,9,10] [.slice (some ⟨b5,0,none⟩) ((ofB s).length) c6,.slice (some ⟨b5,0,none⟩) ((ofB s).length) c6,vI (ln (ofB s)),vI 0] [] (t_block ?_)
  intro _ _ H13 hS
  refine w_loop (fun kk a' w' => ∃ (v14 : Int),ju m s kk v14 = some _ ∧ Fr 30 (fS [3,8,9,10] [.slice (some ⟨b5,0,none⟩) ((ofB s).length) c6,.slice (some ⟨b5,0,none⟩) ((ofB s).length) c6,vI (ln (ofB s)),vI v14]) a' ∧ SH M X w [Ent.row .u8 b5 (ofB s) (ln (ofB s))] w') ⟨_,0,hm,FrG.keep (ks:=[3,8,9,10]) H13 (by kernel_rfl),hS⟩ ?_
  clear hm H13 hS
  rintro kk _ _ ⟨v14,hm,H,hS⟩
  cases kk with
  | zero => exact noneE hm
  | succ kk =>
   rw [ju] at hm
   refine t_in H hS ?_
   refine t_r [3,8,9,10,11] [.slice (some ⟨b5,0,none⟩) ((ofB s).length) c6,.slice (some ⟨b5,0,none⟩) ((ofB s).length) c6,vI (ln (ofB s)),vI v14,vB (decide (v14 < (ln (ofB s))))] [] (t_seq ?_)
   refine t_im hm (fun hm => ?_) (fun hm => ?c26)
   case c26 =>
    refine t_exit ?_
    obtain rfl:=someE hm
    exact t_e [3]
   refine t_skip (t_seq (t_block ?_))
   obtain ⟨ho17,hm⟩:=chkE hm
   refine t_r [3,4,5,8,9,10] [.slice (some ⟨b5,0,none⟩) ((ofB s).length) c6,vI v14,vU (gi (ofB s) v14),.slice (some ⟨b5,0,none⟩) ((ofB s).length) c6,vI (ln (ofB s)),vI v14] [⟨none,fun _ => oka (some ⟨b5,0,none⟩) ∧ 0 ≤ v14 ∧ v14 < ln (ofB s),fun _ _ => (⟨rfl,ho17⟩)⟩,⟨some (vU (gi (ofB s) v14)),fun wz => V.at1 ⟨b5,0 + (v14).toNat * 1,none⟩ (vU (gi (ofB s) v14)) wz,fun _ hS => (Rw.ixn (hS.rw 0 rfl) ho17)⟩] ?_
   obtain ⟨x20,hx20,hm⟩:=letE hm
   refine t_r [3,4,8,9,10,20] [.slice (some ⟨b5,0,none⟩) ((ofB s).length) c6,vI v14,.slice (some ⟨b5,0,none⟩) ((ofB s).length) c6,vI (ln (ofB s)),vI v14,vB x20] [] ?_ (he:=by subst hx20; kernel_rfl)
   refine t_i2 hm (fun hm => ?_)
   refine t_skip ?_
   refine t_w [3,8,9,10] [.slice (some ⟨b5,0,none⟩) ((ofB s).length) c6,.slice (some ⟨b5,0,none⟩) ((ofB s).length) c6,vI (ln (ofB s)),vI (w64 (v14 + 1))] [] ?_
   exact fun _ _ H24 hS => ⟨_,Nat.lt_succ_self _,w64 (v14 + 1),hm,FrG.keep (ks:=[3,8,9,10]) H24 (by kernel_rfl),hS⟩
 ·intro _ _ H hS
  refine s_reg [(vS (toB (ofB s)))] [2] [(2,[],vS (toB (ofB s)))] [fun wz => ∀ w',Below wz.heap.size wz w' → (convert 201 9 (.slice (some ⟨b5,0,none⟩) ((ofB s).length) c6)).run Tryz.prog w' = .ok (vS (toB (ofB s))) w'] H (by kernel_rfl) ⟨(conv_row (E:=5) (by kernel_rfl) (by kernel_rfl) (by kernel_rfl) (hS.rw 0 rfl).1 (hS.rw 0 rfl).2),trivial⟩ fun _ _ H29 hb => ?_
  replace hS:=hS.below hb
  replace hS : SH M X w [] _:=hS.sel [] rfl
  refine t_in H29 hS (t_ret ?_)
  obtain rfl:=someE hm
  exact t_n [] rs1

def mN (m : Nat) (s : Str) : Option (Bool) :=
  Option.bind (cond (fQ s) (ib m s) (some default)) fun y3 =>
  some (cond (fQ s) (y3 == s) false)
theorem ru  (m : Nat) (s : Str) (r : Bool) (hm : mN m s = some r) : Ret Tryz.prog 241 ⟨[vS s]⟩ (vB r):=by
 rw [mN] at hm
 refine f_pure (Tryz.call241 _) Tryz.func241 Tryz.ntmps241 fun M X w => ?_
 refine t_r [0] [vS s] [] ?_
 obtain ⟨y3,hy3,hm⟩:=bindE hm
 refine t_r [2] [vB (cond (fQ s) (y3 == s) false)] [kc (qW s),kgc ((fQ s) = true ∧ True) fun hg => (h7 m _ _ (bT (hg.1) hy3))] (t_ret ?_)
 obtain rfl:=someE hm
 exact t_n [] rs1

def iw (m : Nat) (c_ : bi) : Nat → Int → Option (Unit)
  | 0,_ => none
  | kk + 1,v17 =>
    cond (decide (v17 < (ln c_.aP))) (
    none) (
    some ())
def jU (m : Nat) (c_ : bi) (p : eT) : Option (Bool) :=
  lt (cond (!(c_.Tag == [])) (!(c_.Tag == [42])) false) fun x9 =>
  Option.bind (cond x9 (mN m c_.Tag) (some default)) fun y10 =>
  lt (cond (cond x9 (!y10) false) true (decide (64 < (ln c_.aP)))) fun x11 =>
  cond x11 (
  none) (
  Option.bind (
  iw m c_ m 0) fun (z14 : Unit) =>
  lt (cond (!(c_.Tag == [])) true (decide (0 < (ln c_.aP)))) fun x22 =>
  some x22)
theorem oZ {ac : Gh} (m : Nat) (c_ : bi) (p : eT) (r : Bool) (hm : jU m c_ p = some r) (w : World) (hL : S0 F0 [eI f7 c_.aP ac] w ∧ fpl [eI f7 c_.aP ac] = []) : RetB Tryz.prog 200 ⟨[vG [vS c_.Tag,vL ac c_.aP],vG [vI p.fl,vB p.has]]⟩ (vB r) w:=by
 rw [jU] at hm
 refine f_read hL (Tryz.call200 _) Tryz.func200 Tryz.ntmps200 fun M X w => (t_starts ?_)
 refine t_m [] [0] [1] [vG [vI p.fl,vB p.has]] (fun _ _ H hd => o_box [vS c_.Tag,vL ac c_.aP] H hd rfl rfl) fun b1 => ?_
 refine t_m [] [0,1] [2] [vP b1] (fun _ _ H3 hd => o_box [vI p.fl,vB p.has] H3 hd rfl rfl) fun b4 => ?_
 refine t_b 3 [2,3] [vP b1,vP b4] [] (t_end (t_seq ?_))
 obtain ⟨x9,hx9,hm⟩:=letE hm
 obtain ⟨y10,hy10,hm⟩:=bindE hm
 obtain ⟨x11,hx11,hm⟩:=letE hm
 refine t_r [2,3,26] [vP b1,vP b4,vB x11] [kb 1 0,kgb ((!(c_.Tag == [])) = true ∧ True) 1 0,kgb (x9 = true ∧ True) 1 0,kgc (x9 = true ∧ True) fun hg => (ru m _ _ (bT (hg.1) hy10)),kgb ((cond x9 (!y10) false) = false ∧ True) 1 1] ?_ (he:=by subst hx9 hx11; kernel_rfl)
 refine t_i2 hm (fun hm => ?_)
 refine t_skip ?_
 obtain ⟨z14,hz,hm⟩:=bindE hm
 refine t_cut [2] [vP b1] [eB b4 [vI p.fl,vB p.has],eB b1 [vS c_.Tag,vL ac c_.aP],eI f7 c_.aP ac] ?_ ?_
 ·replace hm:=hz
  refine t_r [2,3,28,29,30] [vP b1,vP b4,vL ac c_.aP,vI (ln c_.aP),vI 0] [kb 1 1] (t_block ?_)
  intro _ _ H16 hS
  refine w_loop (fun kk a' w' => ∃ (v17 : Int),iw m c_ kk v17 = some _ ∧ Fr 48 (fS [2,3,28,29,30] [vP b1,vP b4,vL ac c_.aP,vI (ln c_.aP),vI v17]) a' ∧ SH M X w [eB b4 [vI p.fl,vB p.has],eB b1 [vS c_.Tag,vL ac c_.aP],eI f7 c_.aP ac] w') ⟨_,0,hm,FrG.keep (ks:=[2,3,28,29,30]) H16 (by kernel_rfl),hS⟩ ?_
  clear hm H16 hS
  rintro kk _ _ ⟨v17,hm,H,hS⟩
  cases kk with
  | zero => exact noneE hm
  | succ kk =>
   rw [iw] at hm
   refine t_in H hS ?_
   refine t_r [2,3,28,29,30,31] [vP b1,vP b4,vL ac c_.aP,vI (ln c_.aP),vI v17,vB (decide (v17 < (ln c_.aP)))] [] (t_seq ?_)
   refine t_im hm (fun hm => ?_) (fun hm => ?c20)
   case c20 =>
    refine t_exit ?_
    obtain rfl:=someE hm
    exact t_e [2]
   refine t_skip (t_seq (t_block ?_))
   intro _ _ H19 hS
   exact noneE hm
 ·refine t_sel [1,2] ?_
  obtain ⟨x22,hx22,hm⟩:=letE hm
  refine t_r [4] [vB x22] [kb 0 0,kgb ((!(c_.Tag == [])) = false ∧ True) 0 1] ?_ (he:=by subst hx22; kernel_rfl)
  refine t_sel [] (t_ret ?_)
  obtain rfl:=someE hm
  exact t_n [] rs1

def lc (m : Nat) (x_ : bi) (nr : Int) (pJ : Bool) : Option (Bool) :=
  Option.bind (jU m x_ (eT.mk nr pJ)) fun y6 =>
  some (!y6)
theorem pV {cQ : Gh} {aW : Nat} (m : Nat) (x_ : bi) (nr : Int) (pJ : Bool) (r : Bool) (hm : lc m x_ nr pJ = some r) (w : World) (hL : S0 F0 [eI f7 x_.aP cQ,Ent.ro aW [vI nr,vB pJ]] w ∧ fpl [eI f7 x_.aP cQ,Ent.ro aW [vI nr,vB pJ]] = []) : RetB Tryz.prog 199 ⟨[vG [vS x_.Tag,vL cQ x_.aP],vP aW]⟩ (vB r) w:=by
 rw [lc] at hm
 refine f_read hL (Tryz.call199 _) Tryz.func199 Tryz.ntmps199 fun M X w => (t_starts ?_)
 refine t_m [] [0,1] [1] [vP aW] (fun _ _ H hd => o_box [vS x_.Tag,vL cQ x_.aP] H hd rfl rfl) fun b1 => ?_
 refine t_b 2 [1,2] [vP aW,vP b1] [] (t_end ?_)
 obtain ⟨y6,hy6,hm⟩:=bindE hm
 refine t_r [3] [vB (!y6)] [kE 0 2,⟨some (vG [vI nr,vB pJ]),rN aW 0 [vI nr,vB pJ],fun _ hS => ((hS.ro 2 rfl).atD rfl)⟩,kr fun _ hS => oZ (ac:=cQ) m _ _ _ hy6 _ (s0im s0nil (hS.im 1 rfl))] (t_sel [] (t_ret ?_))
 obtain rfl:=someE hm
 exact t_n [] rs1

def bV (m : Nat) (s : List bi) (ef : Int) (eW : Bool) : Nat → Int → Option (Unit)
  | 0,_ => none
  | kk + 1,v6 =>
    cond (decide (v6 < (ln s))) (
    chk (0 ≤ v6 ∧ v6 < ln s) <|
    Option.bind (lc m (gi s v6) ef eW) fun y12 =>
    cond y12 (
    none) (
    bV m s ef eW kk (w64 (v6 + 1)))) (
    some ())
def db (m : Nat) (s : List bi) (ef : Int) (eW : Bool) : Option (Int) :=
  Option.bind (
  bV m s ef eW m 0) fun (z3 : Unit) =>
  some (-1)
theorem fU {g_s : Gh} {bY : Nat} (m : Nat) (s : List bi) (ef : Int) (eW : Bool) (r : Int) (hm : db m s ef eW = some r) (w : World) (hL : S0 F0 [eI cb s g_s,Ent.ro bY [vI ef,vB eW]] w ∧ fpl [eI cb s g_s,Ent.ro bY [vI ef,vB eW]] = []) : RetB Tryz.prog 240 ⟨[vL g_s s,.func (.func 199) ⟨[]⟩ ⟨[vP bY]⟩]⟩ (vI r) w:=by
 rw [db] at hm
 refine f_read hL (Tryz.call240 _) Tryz.func240 Tryz.ntmps240 fun M X w => ?_
 refine t_r [0,1] [vL g_s s,.func (.func 199) ⟨[]⟩ ⟨[vP bY]⟩] [] ?_
 obtain ⟨z3,hz,hm⟩:=bindE hm
 refine t_cut [] [] [eI cb s g_s,Ent.ro bY [vI ef,vB eW]] ?_ ?_
 ·replace hm:=hz
  refine t_r [0,1,7,8] [vL g_s s,.func (.func 199) ⟨[]⟩ ⟨[vP bY]⟩,vI (ln s),vI 0] [] (t_block ?_)
  intro _ _ H5 hS
  refine w_loop (fun kk a' w' => ∃ (v6 : Int),bV m s ef eW kk v6 = some _ ∧ Fr 19 (fS [0,1,7,8] [vL g_s s,.func (.func 199) ⟨[]⟩ ⟨[vP bY]⟩,vI (ln s),vI v6]) a' ∧ SH M X w [eI cb s g_s,Ent.ro bY [vI ef,vB eW]] w') ⟨_,0,hm,FrG.keep (ks:=[0,1,7,8]) H5 (by kernel_rfl),hS⟩ ?_
  clear hm H5 hS
  rintro kk _ _ ⟨v6,hm,H,hS⟩
  cases kk with
  | zero => exact noneE hm
  | succ kk =>
   rw [bV] at hm
   refine t_in H hS ?_
   refine t_r [0,1,7,8,9] [vL g_s s,.func (.func 199) ⟨[]⟩ ⟨[vP bY]⟩,vI (ln s),vI v6,vB (decide (v6 < (ln s)))] [] (t_seq ?_)
   refine t_im hm (fun hm => ?_) (fun hm => ?c18)
   case c18 =>
    refine t_exit ?_
    obtain rfl:=someE hm
    exact t_e []
   refine t_skip (t_seq (t_block ?_))
   refine t_r [0,1,5,7,8] [vL g_s s,.func (.func 199) ⟨[]⟩ ⟨[vP bY]⟩,vI v6,vI (ln s),vI v6] [] ?_
   obtain ⟨ho11,hm⟩:=chkE hm
   obtain ⟨y12,hy12,hm⟩:=bindE hm
   refine t_r [0,1,5,7,8,16] [vL g_s s,.func (.func 199) ⟨[]⟩ ⟨[vP bY]⟩,vI v6,vI (ln s),vI v6,vB y12] [ki 0 ho11,⟨some (vG [vS (gi s v6).Tag,.slice (g_s.s (v6).toNat 0).a (((gi s v6).aP).length) (g_s.s (v6).toNat 0).c]),fun wz => V.atN (ab g_s.a) (ao g_s.a + (v6).toNat * 2) [vS (gi s v6).Tag,.slice (g_s.s (v6).toNat 0).a (((gi s v6).aP).length) (g_s.s (v6).toNat 0).c] 0 wz,fun _ hS => ((hS.im 0 rfl).atA ho11 0 rfl)⟩,kr fun _ hS => pV (cQ:=(g_s.s (v6).toNat 0)) (aW:=bY) m _ _ _ _ hy12 _ (s0im (s0ro s0nil (hS.ro 1 rfl)) (tq ((hS.im 0 rfl).el ho11)))] ?_
   refine t_i2 hm (fun hm => ?_)
   refine t_skip ?_
   refine t_w [0,1,7,8] [vL g_s s,.func (.func 199) ⟨[]⟩ ⟨[vP bY]⟩,vI (ln s),vI (w64 (v6 + 1))] [] ?_
   exact fun _ _ H16 hS => ⟨_,Nat.lt_succ_self _,w64 (v6 + 1),hm,FrG.keep (ks:=[0,1,7,8]) H16 (by kernel_rfl),hS⟩
 ·refine t_sel [] ?_
  refine t_r [4] [vI (-1)] [] (t_ret ?_)
  obtain rfl:=someE hm
  exact t_n [] rs1

def cP (m : Nat) (s : List bi) (ef : Int) (eW : Bool) : Option (Bool) :=
  Option.bind (db m s ef eW) fun y3 =>
  some (decide (0 ≤ y3))
theorem fu {g_s : Gh} {bY : Nat} (m : Nat) (s : List bi) (ef : Int) (eW : Bool) (r : Bool) (hm : cP m s ef eW = some r) (w : World) (hL : S0 F0 [eI cb s g_s,Ent.ro bY [vI ef,vB eW]] w ∧ fpl [eI cb s g_s,Ent.ro bY [vI ef,vB eW]] = []) : RetB Tryz.prog 198 ⟨[vL g_s s,.func (.func 199) ⟨[]⟩ ⟨[vP bY]⟩]⟩ (vB r) w:=by
 rw [cP] at hm
 refine f_read hL (Tryz.call198 _) Tryz.func198 Tryz.ntmps198 fun M X w => ?_
 refine t_r [0,1] [vL g_s s,.func (.func 199) ⟨[]⟩ ⟨[vP bY]⟩] [] ?_
 obtain ⟨y3,hy3,hm⟩:=bindE hm
 refine t_r [4] [vB (decide (0 ≤ y3))] [kr fun _ hS => fU (g_s:=g_s) (bY:=bY) m _ _ _ _ hy3 _ (s0im (s0ro s0nil (hS.ro 1 rfl)) (hS.im 0 rfl))] (t_sel [] (t_ret ?_))
 obtain rfl:=someE hm
 exact t_n [] rs1

def jZ (m : Nat) (c_ : aK) : Nat → Int → Option (Unit)
  | 0,_ => none
  | kk + 1,v17 =>
    cond (decide (v17 < (ln c_.gU))) (
    none) (
    some ())
def n4 (m : Nat) (c_ : aK) (p : eT) (aY : Bool) : Option (Bool) :=
  lt (cond (!(aY == (c_.wl != 0))) true (decide (4 < c_.wl))) fun x9 =>
  lt (cond x9 true ((w64 ((ln c_.gU) + 1)) != (ln c_.Parts))) fun x10 =>
  lt (cond x10 true (decide (64 < (ln c_.Parts)))) fun x11 =>
  cond x11 (
  none) (
  Option.bind (
  jZ m c_ m 0) fun (z14 : Unit) =>
  Option.bind (cP m c_.Parts p.fl p.has) fun y22 =>
  some (!y22))
theorem qY {ac : Gh} {a7 : Gh} (m : Nat) (c_ : aK) (p : eT) (aY : Bool) (r : Bool) (hm : n4 m c_ p aY = some r) (w : World) (hL : S0 F0 [eI cb c_.Parts ac,eI (tI .u8) c_.gU a7] w ∧ fpl [eI cb c_.Parts ac,eI (tI .u8) c_.gU a7] = []) : RetB Tryz.prog 135 ⟨[.agg ⟨e1 c_ (gL [ac,a7])⟩,vG [vI p.fl,vB p.has],vB aY]⟩ (vB r) w:=by
 rw [n4] at hm
 refine f_read hL (Tryz.call135 _) Tryz.func135 Tryz.ntmps135 fun M X w => (t_starts ?_)
 refine t_m [] [0,1] [1,2] [vG [vI p.fl,vB p.has],vB aY] (fun _ _ H hd => o_box (e1 c_ (gL [ac,a7])) H hd rfl rfl) fun b1 => ?_
 refine t_m [] [0,1,2] [2,3] [vB aY,vP b1] (fun _ _ H3 hd => o_box [vI p.fl,vB p.has] H3 hd rfl rfl) fun b4 => ?_
 refine t_b 3 [2,3,4] [vB aY,vP b1,vP b4] [] (t_end (t_seq ?_))
 obtain ⟨x9,hx9,hm⟩:=letE hm
 obtain ⟨x10,hx10,hm⟩:=letE hm
 obtain ⟨x11,hx11,hm⟩:=letE hm
 refine t_r [3,4,34] [vP b1,vP b4,vB x11] [kb 1 0,kgb ((!(aY == (c_.wl != 0))) = false ∧ True) 1 0,kgb (x9 = false ∧ True) 1 2,kgb (x9 = false ∧ True) 1 1,kgb (x10 = false ∧ True) 1 1] ?_ (he:=by subst hx9 hx10 hx11; kernel_rfl)
 refine t_i2 hm (fun hm => ?_)
 refine t_skip ?_
 obtain ⟨z14,hz,hm⟩:=bindE hm
 refine t_cut [3,4] [vP b1,vP b4] [eB b4 [vI p.fl,vB p.has],eB b1 (e1 c_ (gL [ac,a7])),eI cb c_.Parts ac,eI (tI .u8) c_.gU a7] ?_ ?_
 ·replace hm:=hz
  refine t_r [3,4,36,37,38] [vP b1,vP b4,vL a7 c_.gU,vI (ln c_.gU),vI 0] [kb 1 2] (t_block ?_)
  intro _ _ H16 hS
  refine w_loop (fun kk a' w' => ∃ (v17 : Int),jZ m c_ kk v17 = some _ ∧ Fr 54 (fS [3,4,36,37,38] [vP b1,vP b4,vL a7 c_.gU,vI (ln c_.gU),vI v17]) a' ∧ SH M X w [eB b4 [vI p.fl,vB p.has],eB b1 (e1 c_ (gL [ac,a7])),eI cb c_.Parts ac,eI (tI .u8) c_.gU a7] w') ⟨_,0,hm,FrG.keep (ks:=[3,4,36,37,38]) H16 (by kernel_rfl),hS⟩ ?_
  clear hm H16 hS
  rintro kk _ _ ⟨v17,hm,H,hS⟩
  cases kk with
  | zero => exact noneE hm
  | succ kk =>
   rw [jZ] at hm
   refine t_in H hS ?_
   refine t_r [3,4,36,37,38,39] [vP b1,vP b4,vL a7 c_.gU,vI (ln c_.gU),vI v17,vB (decide (v17 < (ln c_.gU)))] [] (t_seq ?_)
   refine t_im hm (fun hm => ?_) (fun hm => ?c20)
   case c20 =>
    refine t_exit ?_
    obtain rfl:=someE hm
    exact t_e [3,4]
   refine t_skip (t_seq (t_block ?_))
   intro _ _ H19 hS
   exact noneE hm
 ·obtain ⟨y22,hy22,hm⟩:=bindE hm
  refine t_r [6] [vB (!y22)] [kb 1 1,kr fun _ hS => fu (g_s:=ac) (bY:=b4) m _ _ _ _ hy22 _ (s0im (s0ro s0nil (hS.bk 0 rfl)) (hS.im 2 rfl))] (t_sel [] (t_ret ?_))
  obtain rfl:=someE hm
  exact t_n [] rs1

def l5 (m : Nat) (c_ : aK) : Option (Bool) :=
  Option.bind (n4 m c_ (eT.mk 0 false) false) fun y6 =>
  some (!y6)
theorem po {ac : Gh} {a7 : Gh} (m : Nat) (c_ : aK) (r : Bool) (hm : l5 m c_ = some r) (w : World) (hL : S0 F0 [eI cb c_.Parts ac,eI (tI .u8) c_.gU a7] w ∧ fpl [eI cb c_.Parts ac,eI (tI .u8) c_.gU a7] = []) : RetB Tryz.prog 134 ⟨[.agg ⟨e1 c_ (gL [ac,a7])⟩]⟩ (vB r) w:=by
 rw [l5] at hm
 refine f_read hL (Tryz.call134 _) Tryz.func134 Tryz.ntmps134 fun M X w => (t_starts ?_)
 refine t_m [] [0,1] [] [] (fun _ _ H hd => o_box (e1 c_ (gL [ac,a7])) H hd rfl rfl) fun b1 => ?_
 refine t_b 2 [1] [vP b1] [] (t_end ?_)
 obtain ⟨y6,hy6,hm⟩:=bindE hm
 refine t_r [2] [vB (!y6)] [kE 0 3,kr fun _ hS => qY (ac:=ac) (a7:=a7) m _ _ _ _ hy6 _ (s0im (s0im s0nil (hS.im 2 rfl)) (hS.im 1 rfl))] (t_sel [] (t_ret ?_))
 obtain rfl:=someE hm
 exact t_n [] rs1

def ce (m : Nat) (s : List aK) : Nat → Int → Option (Unit)
  | 0,_ => none
  | kk + 1,v6 =>
    cond (decide (v6 < (ln s))) (
    chk (0 ≤ v6 ∧ v6 < ln s) <|
    Option.bind (l5 m (gi s v6)) fun y12 =>
    cond y12 (
    none) (
    ce m s kk (w64 (v6 + 1)))) (
    some ())
def dr (m : Nat) (s : List aK) : Option (Int) :=
  Option.bind (
  ce m s m 0) fun (z3 : Unit) =>
  some (-1)
theorem gb {g_s : Gh} (m : Nat) (s : List aK) (r : Int) (hm : dr m s = some r) (w : World) (hL : S0 F0 [eI au s g_s] w ∧ fpl [eI au s g_s] = []) : RetB Tryz.prog 197 ⟨[vL g_s s,.func (.func 134) ⟨[]⟩ ⟨[]⟩]⟩ (vI r) w:=by
 rw [dr] at hm
 refine f_read hL (Tryz.call197 _) Tryz.func197 Tryz.ntmps197 fun M X w => ?_
 refine t_r [0,1] [vL g_s s,.func (.func 134) ⟨[]⟩ ⟨[]⟩] [] ?_
 obtain ⟨z3,hz,hm⟩:=bindE hm
 refine t_cut [] [] [eI au s g_s] ?_ ?_
 ·replace hm:=hz
  refine t_r [0,1,7,8] [vL g_s s,.func (.func 134) ⟨[]⟩ ⟨[]⟩,vI (ln s),vI 0] [] (t_block ?_)
  intro _ _ H5 hS
  refine w_loop (fun kk a' w' => ∃ (v6 : Int),ce m s kk v6 = some _ ∧ Fr 19 (fS [0,1,7,8] [vL g_s s,.func (.func 134) ⟨[]⟩ ⟨[]⟩,vI (ln s),vI v6]) a' ∧ SH M X w [eI au s g_s] w') ⟨_,0,hm,FrG.keep (ks:=[0,1,7,8]) H5 (by kernel_rfl),hS⟩ ?_
  clear hm H5 hS
  rintro kk _ _ ⟨v6,hm,H,hS⟩
  cases kk with
  | zero => exact noneE hm
  | succ kk =>
   rw [ce] at hm
   refine t_in H hS ?_
   refine t_r [0,1,7,8,9] [vL g_s s,.func (.func 134) ⟨[]⟩ ⟨[]⟩,vI (ln s),vI v6,vB (decide (v6 < (ln s)))] [] (t_seq ?_)
   refine t_im hm (fun hm => ?_) (fun hm => ?c18)
   case c18 =>
    refine t_exit ?_
    obtain rfl:=someE hm
    exact t_e []
   refine t_skip (t_seq (t_block ?_))
   refine t_r [0,1,5,7,8] [vL g_s s,.func (.func 134) ⟨[]⟩ ⟨[]⟩,vI v6,vI (ln s),vI v6] [] ?_
   obtain ⟨ho11,hm⟩:=chkE hm
   obtain ⟨y12,hy12,hm⟩:=bindE hm
   refine t_r [0,1,5,7,8,16] [vL g_s s,.func (.func 134) ⟨[]⟩ ⟨[]⟩,vI v6,vI (ln s),vI v6,vB y12] [ki 0 ho11,⟨some (.agg ⟨e1 (gi s v6) (g_s.s (v6).toNat)⟩),fun wz => V.atN (ab g_s.a) (ao g_s.a + (v6).toNat * 3) (e1 (gi s v6) (g_s.s (v6).toNat)) 0 wz,fun _ hS => ((hS.im 0 rfl).atA ho11 0 rfl)⟩,kr fun _ hS => po (ac:=(g_s.s (v6).toNat 0)) (a7:=(g_s.s (v6).toNat 1)) m _ _ hy12 _ (s0im (s0im s0nil (ux ((hS.im 0 rfl).el ho11))) (gj ((hS.im 0 rfl).el ho11)))] ?_
   refine t_i2 hm (fun hm => ?_)
   refine t_skip ?_
   refine t_w [0,1,7,8] [vL g_s s,.func (.func 134) ⟨[]⟩ ⟨[]⟩,vI (ln s),vI (w64 (v6 + 1))] [] ?_
   exact fun _ _ H16 hS => ⟨_,Nat.lt_succ_self _,w64 (v6 + 1),hm,FrG.keep (ks:=[0,1,7,8]) H16 (by kernel_rfl),hS⟩
 ·refine t_sel [] ?_
  refine t_r [4] [vI (-1)] [] (t_ret ?_)
  obtain rfl:=someE hm
  exact t_n [] rs1

def da (m : Nat) (s : List aK) : Option (Bool) :=
  Option.bind (dr m s) fun y3 =>
  some (decide (0 ≤ y3))
theorem fR {g_s : Gh} (m : Nat) (s : List aK) (r : Bool) (hm : da m s = some r) (w : World) (hL : S0 F0 [eI au s g_s] w ∧ fpl [eI au s g_s] = []) : RetB Tryz.prog 133 ⟨[vL g_s s,.func (.func 134) ⟨[]⟩ ⟨[]⟩]⟩ (vB r) w:=by
 rw [da] at hm
 refine f_read hL (Tryz.call133 _) Tryz.func133 Tryz.ntmps133 fun M X w => ?_
 refine t_r [0,1] [vL g_s s,.func (.func 134) ⟨[]⟩ ⟨[]⟩] [] ?_
 obtain ⟨y3,hy3,hm⟩:=bindE hm
 refine t_r [4] [vB (decide (0 ≤ y3))] [kr fun _ hS => gb (g_s:=g_s) m _ _ hy3 _ (s0im s0nil (hS.im 0 rfl))] (t_sel [] (t_ret ?_))
 obtain rfl:=someE hm
 exact t_n [] rs1

def jR (m : Nat) (l_ : List aK) (v9 : Int) (v24 : Int) : Nat → Int → Int → Option (Int)
  | 0,_,_ => none
  | kk + 1,v38,v39 =>
    lt (decide (v39 < (ln ((gi ((gi l_ v9).Parts) v24).aP)))) fun x40 =>
    cond x40 (
    none) (
    some v38)
def ij (m : Nat) (l_ : List aK) (v9 : Int) : Nat → Int → Int → Option (Int)
  | 0,_,_ => none
  | kk + 1,v23,v24 =>
    cond (decide (v24 < (ln ((gi l_ v9).Parts)))) (
    Option.bind (
    chk (0 ≤ v24 ∧ v24 < ln ((gi l_ v9).Parts)) <|
    jR m l_ v9 v24 m v23 0) fun (z27 : Int) =>
    ij m l_ v9 kk z27 (w64 (v24 + 1))) (
    some v23)
def ic (m : Nat) (l_ : List aK) : Nat → Int → Int → Option (Int)
  | 0,_,_ => none
  | kk + 1,v8,v9 =>
    cond (decide (v9 < (ln l_))) (
    Option.bind (
    chk (0 ≤ v9 ∧ v9 < ln l_) <|
    ij m l_ v9 m v8 0) fun (z12 : Int) =>
    ic m l_ kk z12 (w64 (v9 + 1))) (
    some v8)
def mM (m : Nat) (l_ : List aK) : Option (Int) :=
  Option.bind (
  ic m l_ m (ln l_) 0) fun (z5 : Int) =>
  some z5
theorem qZ {aa : Gh} (m : Nat) (l_ : List aK) (r : Int) (hm : mM m l_ = some r) (w : World) (hL : S0 F0 [eI au l_ aa] w ∧ fpl [eI au l_ aa] = []) : RetB Tryz.prog 136 ⟨[vL aa l_]⟩ (vI r) w:=by
 rw [mM] at hm
 refine f_read hL (Tryz.call136 _) Tryz.func136 Tryz.ntmps136 fun M X w => ?_
 refine t_r [0] [vL aa l_] [] ?_
 refine t_r [0,3] [vL aa l_,vI (ln l_)] [] ?_
 obtain ⟨z5,hz,hm⟩:=bindE hm
 refine t_cut [3] [vI z5] [eI au l_ aa] ?_ ?_
 ·replace hm:=hz
  refine t_r [3,12,13,14] [vI (ln l_),vL aa l_,vI (ln l_),vI 0] [] (t_block ?_)
  intro _ _ H7 hS
  refine w_loop (fun kk a' w' => ∃ (v8 : Int) (v9 : Int),ic m l_ kk v8 v9 = some _ ∧ Fr 41 (fS [12,13,3,14] [vL aa l_,vI (ln l_),vI v8,vI v9]) a' ∧ SH M X w [eI au l_ aa] w') ⟨_,ln l_,0,hm,FrG.keep (ks:=[12,13,3,14]) H7 (by kernel_rfl),hS⟩ ?_
  clear hm H7 hS
  rintro kk _ _ ⟨v8,v9,hm,H,hS⟩
  cases kk with
  | zero => exact noneE hm
  | succ kk =>
   rw [ic] at hm
   refine t_in H hS ?_
   refine t_r [3,12,13,14,15] [vI v8,vL aa l_,vI (ln l_),vI v9,vB (decide (v9 < (ln l_)))] [] (t_seq ?_)
   refine t_im hm (fun hm => ?_) (fun hm => ?c53)
   case c53 =>
    refine t_exit ?_
    obtain rfl:=someE hm
    exact t_e [3]
   refine t_skip ?_
   obtain ⟨z12,hz,hm⟩:=bindE hm
   refine t_cut [12,13,14,3] [vL aa l_,vI (ln l_),vI v9,vI z12] [eI au l_ aa] ?_ ?_
   ·replace hm:=hz
    refine t_block (t_starts ?_)
    obtain ⟨ho13,hm⟩:=chkE hm
    refine t_b 2 [3,12,13,14,17] [vI v8,vL aa l_,vI (ln l_),vI v9,.agg ⟨e1 (gi l_ v9) (aa.s (v9).toNat)⟩] [ki 0 ho13,⟨some (.agg ⟨e1 (gi l_ v9) (aa.s (v9).toNat)⟩),fun wz => V.atN (ab aa.a) (ao aa.a + (v9).toNat * 3) (e1 (gi l_ v9) (aa.s (v9).toNat)) 0 wz,fun _ hS => ((hS.im 0 rfl).atA ho13 0 rfl)⟩] ?_
    refine t_m [] [0] [3,12,13,14,17] [vI v8,vL aa l_,vI (ln l_),vI v9,.agg ⟨e1 (gi l_ v9) (aa.s (v9).toNat)⟩] (fun _ _ H15 hd => o_alloc [vU 0,vO,vO] (z:=vG [vU 0,vO,vO]) hd (by kernel_rfl) rfl) fun b16 => ?_
    refine t_m0 [0] [1] [3,5,12,13,14] [vI v8,vP b16,vL aa l_,vI (ln l_),vI v9] (fun _ _ H18 hd => o_store (e1 (gi l_ v9) (aa.s (v9).toNat)) H18 hd rfl rfl (by kernel_rfl) rfl rfl rfl) (t_end ?_)
    refine t_r [3,12,13,14,19,20,21] [vI v8,vL aa l_,vI (ln l_),vI v9,.slice (aa.s (v9).toNat 0).a (((gi l_ v9).Parts).length) (aa.s (v9).toNat 0).c,vI (ln ((gi l_ v9).Parts)),vI 0] [kb 0 1] (t_sel [1] (t_block ?_))
    intro _ _ H22 hS
    refine w_loop (fun kk a' w' => ∃ (v23 : Int) (v24 : Int),ij m l_ v9 kk v23 v24 = some _ ∧ Fr 41 (fS [12,13,14,19,20,3,21] [vL aa l_,vI (ln l_),vI v9,.slice (aa.s (v9).toNat 0).a (((gi l_ v9).Parts).length) (aa.s (v9).toNat 0).c,vI (ln ((gi l_ v9).Parts)),vI v23,vI v24]) a' ∧ SH M X w [eI au l_ aa] w') ⟨_,v8,0,hm,FrG.keep (ks:=[12,13,14,19,20,3,21]) H22 (by kernel_rfl),hS⟩ ?_
    clear hm H22 hS
    rintro kk _ _ ⟨v23,v24,hm,H,hS⟩
    cases kk with
    | zero => exact noneE hm
    | succ kk =>
     rw [ij] at hm
     refine t_in H hS ?_
     refine t_r [3,12,13,14,19,20,21,22] [vI v23,vL aa l_,vI (ln l_),vI v9,.slice (aa.s (v9).toNat 0).a (((gi l_ v9).Parts).length) (aa.s (v9).toNat 0).c,vI (ln ((gi l_ v9).Parts)),vI v24,vB (decide (v24 < (ln ((gi l_ v9).Parts))))] [] (t_seq ?_)
     refine t_im hm (fun hm => ?_) (fun hm => ?c48)
     case c48 =>
      refine t_exit ?_
      obtain rfl:=someE hm
      exact t_e [12,13,14,3]
     refine t_skip ?_
     obtain ⟨z27,hz,hm⟩:=bindE hm
     refine t_cut [12,13,14,19,20,21,3] [vL aa l_,vI (ln l_),vI v9,.slice (aa.s (v9).toNat 0).a (((gi l_ v9).Parts).length) (aa.s (v9).toNat 0).c,vI (ln ((gi l_ v9).Parts)),vI v24,vI z27] [eI au l_ aa] ?_ ?_
     ·replace hm:=hz
      refine t_block (t_starts ?_)
      obtain ⟨ho28,hm⟩:=chkE hm
      refine t_b 2 [3,12,13,14,19,20,21,24] [vI v23,vL aa l_,vI (ln l_),vI v9,.slice (aa.s (v9).toNat 0).a (((gi l_ v9).Parts).length) (aa.s (v9).toNat 0).c,vI (ln ((gi l_ v9).Parts)),vI v24,vG [vS (gi ((gi l_ v9).Parts) v24).Tag,.slice ((aa.s (v9).toNat 0).s (v24).toNat 0).a (((gi ((gi l_ v9).Parts) v24).aP).length) ((aa.s (v9).toNat 0).s (v24).toNat 0).c]] [⟨none,fun _ => oka (aa.s (v9).toNat 0).a ∧ 0 ≤ v24 ∧ v24 < ln ((gi l_ v9).Parts),fun _ hS => ((gj ((hS.im 0 rfl).el ho13)).oki ho28)⟩,⟨some (vG [vS (gi ((gi l_ v9).Parts) v24).Tag,.slice ((aa.s (v9).toNat 0).s (v24).toNat 0).a (((gi ((gi l_ v9).Parts) v24).aP).length) ((aa.s (v9).toNat 0).s (v24).toNat 0).c]),fun wz => V.atN (ab (aa.s (v9).toNat 0).a) (ao (aa.s (v9).toNat 0).a + (v24).toNat * 2) [vS (gi ((gi l_ v9).Parts) v24).Tag,.slice ((aa.s (v9).toNat 0).s (v24).toNat 0).a (((gi ((gi l_ v9).Parts) v24).aP).length) ((aa.s (v9).toNat 0).s (v24).toNat 0).c] 0 wz,fun _ hS => ((gj ((hS.im 0 rfl).el ho13)).atA ho28 0 rfl)⟩] ?_
      refine t_m [] [0] [3,12,13,14,19,20,21,24] [vI v23,vL aa l_,vI (ln l_),vI v9,.slice (aa.s (v9).toNat 0).a (((gi l_ v9).Parts).length) (aa.s (v9).toNat 0).c,vI (ln ((gi l_ v9).Parts)),vI v24,vG [vS (gi ((gi l_ v9).Parts) v24).Tag,.slice ((aa.s (v9).toNat 0).s (v24).toNat 0).a (((gi ((gi l_ v9).Parts) v24).aP).length) ((aa.s (v9).toNat 0).s (v24).toNat 0).c]] (fun _ _ H30 hd => o_alloc [vN,vO] (z:=vG [vN,vO]) hd (by kernel_rfl) rfl) fun b31 => ?_
      refine t_m0 [0] [1] [3,7,12,13,14,19,20,21] [vI v23,vP b31,vL aa l_,vI (ln l_),vI v9,.slice (aa.s (v9).toNat 0).a (((gi l_ v9).Parts).length) (aa.s (v9).toNat 0).c,vI (ln ((gi l_ v9).Parts)),vI v24] (fun _ _ H33 hd => o_store [vS (gi ((gi l_ v9).Parts) v24).Tag,.slice ((aa.s (v9).toNat 0).s (v24).toNat 0).a (((gi ((gi l_ v9).Parts) v24).aP).length) ((aa.s (v9).toNat 0).s (v24).toNat 0).c] H33 hd rfl rfl (by kernel_rfl) rfl rfl rfl) (t_end ?_)
      refine t_r [3,12,13,14,19,20,21,26,27,28] [vI v23,vL aa l_,vI (ln l_),vI v9,.slice (aa.s (v9).toNat 0).a (((gi l_ v9).Parts).length) (aa.s (v9).toNat 0).c,vI (ln ((gi l_ v9).Parts)),vI v24,.slice ((aa.s (v9).toNat 0).s (v24).toNat 0).a (((gi ((gi l_ v9).Parts) v24).aP).length) ((aa.s (v9).toNat 0).s (v24).toNat 0).c,vI (ln ((gi ((gi l_ v9).Parts) v24).aP)),vI 0] [kb 0 1] (t_sel [1] (t_block ?_))
      intro _ _ H37 hS
      refine w_loop (fun kk a' w' => ∃ (v38 : Int) (v39 : Int),jR m l_ v9 v24 kk v38 v39 = some _ ∧ Fr 41 (fS [12,13,14,19,20,21,26,27,3,28] [vL aa l_,vI (ln l_),vI v9,.slice (aa.s (v9).toNat 0).a (((gi l_ v9).Parts).length) (aa.s (v9).toNat 0).c,vI (ln ((gi l_ v9).Parts)),vI v24,.slice ((aa.s (v9).toNat 0).s (v24).toNat 0).a (((gi ((gi l_ v9).Parts) v24).aP).length) ((aa.s (v9).toNat 0).s (v24).toNat 0).c,vI (ln ((gi ((gi l_ v9).Parts) v24).aP)),vI v38,vI v39]) a' ∧ SH M X w [eI au l_ aa] w') ⟨_,v23,0,hm,FrG.keep (ks:=[12,13,14,19,20,21,26,27,3,28]) H37 (by kernel_rfl),hS⟩ ?_
      clear hm H37 hS
      rintro kk _ _ ⟨v38,v39,hm,H,hS⟩
      cases kk with
      | zero => exact noneE hm
      | succ kk =>
       rw [jR] at hm
       obtain ⟨x40,hx40,hm⟩:=letE hm
       refine t_in H hS ?_
       refine t_r [3,12,13,14,19,20,21,26,27,28,29] [vI v38,vL aa l_,vI (ln l_),vI v9,.slice (aa.s (v9).toNat 0).a (((gi l_ v9).Parts).length) (aa.s (v9).toNat 0).c,vI (ln ((gi l_ v9).Parts)),vI v24,.slice ((aa.s (v9).toNat 0).s (v24).toNat 0).a (((gi ((gi l_ v9).Parts) v24).aP).length) ((aa.s (v9).toNat 0).s (v24).toNat 0).c,vI (ln ((gi ((gi l_ v9).Parts) v24).aP)),vI v39,vB x40] [] ?_ (he:=by subst hx40; kernel_rfl)
       refine t_seq ?_
       refine t_im hm (fun hm => ?_) (fun hm => ?c43)
       case c43 =>
        refine t_exit ?_
        obtain rfl:=someE hm
        exact t_e [12,13,14,19,20,21,3]
       refine t_skip (t_seq (t_block ?_))
       intro _ _ H42 hS
       exact noneE hm
     ·refine t_w [3,12,13,14,19,20,21] [vI z27,vL aa l_,vI (ln l_),vI v9,.slice (aa.s (v9).toNat 0).a (((gi l_ v9).Parts).length) (aa.s (v9).toNat 0).c,vI (ln ((gi l_ v9).Parts)),vI (w64 (v24 + 1))] [] ?_
      exact fun _ _ H46 hS => ⟨_,Nat.lt_succ_self _,z27,w64 (v24 + 1),hm,FrG.keep (ks:=[12,13,14,19,20,3,21]) H46 (by kernel_rfl),hS⟩
   ·refine t_w [3,12,13,14] [vI z12,vL aa l_,vI (ln l_),vI (w64 (v9 + 1))] [] ?_
    exact fun _ _ H51 hS => ⟨_,Nat.lt_succ_self _,z12,w64 (v9 + 1),hm,FrG.keep (ks:=[12,13,3,14]) H51 (by kernel_rfl),hS⟩
 ·refine t_sel [] ?_
  refine t_r [2] [vI z5] [] (t_ret ?_)
  obtain rfl:=someE hm
  exact t_n [] rs1

def mW (m : Nat) (l_ : List aK) : Option (Int) :=
  Option.bind (cond ((ln l_) == 0) (some default) (da m l_)) fun y3 =>
  cond (cond ((ln l_) == 0) true y3) (
  none) (
  Option.bind (mM m l_) fun y6 =>
  cond (decide (64 < y6)) (
  none) (
  some 0))
theorem qX {aa : Gh} (m : Nat) (l_ : List aK) (r : Int) (hm : mW m l_ = some r) (w : World) (hL : S0 F0 [eI au l_ aa] w ∧ fpl [eI au l_ aa] = []) : RetB Tryz.prog 86 ⟨[vL aa l_]⟩ (vI r) w:=by
 rw [mW] at hm
 refine f_read hL (Tryz.call86 _) Tryz.func86 Tryz.ntmps86 fun M X w => ?_
 refine t_r [0] [vL aa l_] [] (t_seq ?_)
 obtain ⟨y3,hy3,hm⟩:=bindE hm
 refine t_r [0,9] [vL aa l_,vB (cond ((ln l_) == 0) true y3)] [kgr (((ln l_) == 0) = false ∧ True) fun _ hS hg => fR (g_s:=aa) m _ _ (bF (hg.1) hy3) _ (s0im s0nil (hS.im 0 rfl))] ?_
 refine t_i2 hm (fun hm => ?_)
 refine t_skip (t_seq ?_)
 obtain ⟨y6,hy6,hm⟩:=bindE hm
 refine t_r [12] [vB (decide (64 < y6))] [kr fun _ hS => qZ (aa:=aa) m _ _ hy6 _ (s0im s0nil (hS.im 0 rfl))] (t_sel [] ?_)
 refine t_i2 hm (fun hm => ?_)
 refine t_skip ?_
 refine t_r [2] [vI 0] [] (t_ret ?_)
 obtain rfl:=someE hm
 exact t_n [] rs1

def iV (c_ : ay) : Bool :=
  lt (cond (c_.aj == 0) (c_.bA == []) false) fun x13 =>
  lt (cond (cond x13 (c_.Num == 0) false) ((ln c_.a8) == 0) false) fun x14 =>
  lt (cond (cond x14 (c_.az.bA == []) false) ((ln c_.az.Value) == 0) false) fun x15 =>
  cond x15 (!c_.az.bK) false
theorem ma {ac : Gh} {a7 : Gh} (c_ : ay) (w : World) (hL : S0 F0 [eI a6 c_.az.Value ac,eI ak c_.a8 a7] w ∧ fpl [eI a6 c_.az.Value ac,eI ak c_.a8 a7] = []) : RetB Tryz.prog 87 ⟨[.agg ⟨e4 c_ (gL [ac,a7])⟩]⟩ (vB (iV c_)) w:=by
 generalize hm : iV c_ = r
 rw [iV] at hm
 refine f_read hL (Tryz.call87 _) Tryz.func87 Tryz.ntmps87 fun M X w => (t_starts ?_)
 refine t_m [] [0,1] [] [] (fun _ _ H hd => o_box (e4 c_ (gL [ac,a7])) H hd rfl rfl) fun b1 => ?_
 refine t_b 2 [1] [vP b1] [] (t_end (t_starts ?_))
 refine t_b 2 [1,5] [vP b1,.agg ⟨e11 c_.az (gL [ac])⟩] [⟨some (.agg ⟨e11 c_.az (gL [ac])⟩),fun wz => V.atN b1 3 (e11 c_.az (gL [ac])) 0 wz,fun _ hS => ((hS.bk 0 rfl).atD rfl)⟩] ?_
 refine t_m [] [0,1,2] [1,5] [vP b1,.agg ⟨e11 c_.az (gL [ac])⟩] (fun _ _ H7 hd => o_alloc [vN,vO,vF] (z:=vG [vN,vO,vF]) hd (by kernel_rfl) rfl) fun b8 => ?_
 refine t_m0 [0] [1,2,3] [1,3] [vP b1,vP b8] (fun _ _ H10 hd => o_store (e11 c_.az (gL [ac])) H10 hd rfl rfl (by kernel_rfl) rfl rfl rfl) (t_end ?_)
 obtain ⟨x13,hx13,hm⟩:=letE hm
 obtain ⟨x14,hx14,hm⟩:=letE hm
 obtain ⟨x15,hx15,hm⟩:=letE hm
 refine t_r [2] [vB (cond x15 (!c_.az.bK) false)] [kb 1 0,kgb ((c_.aj == 0) = true ∧ True) 1 1,kgb (x13 = true ∧ True) 1 2,kgb ((cond x13 (c_.Num == 0) false) = true ∧ True) 1 6,kgb (x14 = true ∧ True) 0 0,kgb ((cond x14 (c_.az.bA == []) false) = true ∧ True) 0 1,kgb (x15 = true ∧ True) 0 2] ?_ (he:=by subst hx13 hx14 hx15; kernel_rfl)
 refine t_sel [] (t_ret ?_)
 subst hm
 exact t_n [] rs1

def ts (gf : ay → Option (Int)) : Prop:=∀ (ac : Gh) (a7 : Gh) (M : Av) (c_ : ay) (r : Int),gf c_ = some r → ∀ w,S0 M [eI a6 c_.az.Value ac,eI ak c_.a8 a7] w → Calls Tryz.prog 90 ⟨[.agg ⟨e4 c_ (gL [ac,a7])⟩]⟩ w (fun e w' => ∃ v,e = .returned v ∧ v = vI r ∧ SH M (fpl [eI a6 c_.az.Value ac,eI ak c_.a8 a7]) w [] w')
def jk (m : Nat) (c_ : ay) (nR : ay → Option (Int)) : Nat → Int → Int → Option (Int)
  | 0,_,_ => none
  | kk + 1,v17,v18 =>
    cond (decide (v18 < (ln c_.a8))) (
    chk (0 ≤ v18 ∧ v18 < ln c_.a8) <|
    Option.bind (nR (gi c_.a8 v18)) fun y29 =>
    jk m c_ nR kk (if v17 < y29 then y29 else v17) (w64 (v18 + 1))) (
    some v17)
def iE (m : Nat) : Nat → ay → Option (Int)
  | 0,_ => none
  | k + 1,c_ =>
    Option.bind (
    cond (cond (c_.aj == 5) true (c_.aj == 6)) (
    some 1) (
    some 0)) fun (z8 : Int) =>
    Option.bind (
    jk m c_ (iE m k) m z8 0) fun (z14 : Int) =>
    some z14
theorem tN (m : Nat) : ∀ (k : Nat),ts (iE m  k):=by
 intro k
 induction k with
 | zero => intro ac a7 M c_ r hm; exact noneE hm
 | succ k ih =>
  intro ac a7 M c_ r hm w hS
  rw [iE] at hm
  have hS0 : SH M (fpl [eI a6 c_.az.Value ac,eI ak c_.a8 a7]) w [eI a6 c_.az.Value ac,eI ak c_.a8 a7] w:=hS
  generalize hX : fpl [eI a6 c_.az.Value ac,eI ak c_.a8 a7] = X at hS0 ⊢
  clear hS hX
  have hS:=hS0
  clear hS0
  refine calls_entryP Tryz.func90 rfl Tryz.ntmps90 rfl fun _ H => ?_
  refine t_in H hS (t_starts ?_)
  refine t_m [] [0,1] [] [] (fun _ _ H hd => o_box (e4 c_ (gL [ac,a7])) H hd rfl rfl) fun b1 => ?_
  refine t_b 2 [1] [vP b1] [] (t_end ?_)
  refine t_r [1,3] [vP b1,vI 0] [] ?_
  obtain ⟨z8,hz,hm⟩:=bindE hm
  refine t_cut [1,3] [vP b1,vI z8] [eB b1 (e4 c_ (gL [ac,a7])),eI a6 c_.az.Value ac,eI ak c_.a8 a7] ?_ ?_
  ·replace hm:=hz
   refine t_r [1,3,13] [vP b1,vI 0,vB (cond (c_.aj == 5) true (c_.aj == 6))] [kb 0 0,kgb ((c_.aj == 5) = false ∧ True) 0 0] ?_
   refine t_im hm (fun hm => ?_) (fun hm => ?c13)
   case c13 =>
    refine t_skip ?_
    obtain rfl:=someE hm
    exact t_e [1,3]
   refine t_w [1,3] [vP b1,vI 1] [] ?_
   obtain rfl:=someE hm
   exact t_e [1,3]
  ·obtain ⟨z14,hz,hm⟩:=bindE hm
   refine t_cut [3] [vI z14] [eB b1 (e4 c_ (gL [ac,a7])),eI a6 c_.az.Value ac,eI ak c_.a8 a7] ?_ ?_
   ·replace hm:=hz
    refine t_r [3,15,16,17] [vI z8,vL a7 c_.a8,vI (ln c_.a8),vI 0] [kb 0 6] (t_block ?_)
    intro _ _ H16 hS
    refine w_loop (fun kk a' w' => ∃ (v17 : Int) (v18 : Int),jk m c_ (iE m k) kk v17 v18 = some _ ∧ Fr 27 (fS [15,16,3,17] [vL a7 c_.a8,vI (ln c_.a8),vI v17,vI v18]) a' ∧ SH M X w [eB b1 (e4 c_ (gL [ac,a7])),eI a6 c_.az.Value ac,eI ak c_.a8 a7] w') ⟨_,z8,0,hm,FrG.keep (ks:=[15,16,3,17]) H16 (by kernel_rfl),hS⟩ ?_
    clear hm H16 hS
    rintro kk _ _ ⟨v17,v18,hm,H,hS⟩
    cases kk with
    | zero => exact noneE hm
    | succ kk =>
     rw [jk] at hm
     refine t_in H hS ?_
     refine t_r [3,15,16,17,18] [vI v17,vL a7 c_.a8,vI (ln c_.a8),vI v18,vB (decide (v18 < (ln c_.a8)))] [] (t_seq ?_)
     refine t_im hm (fun hm => ?_) (fun hm => ?c34)
     case c34 =>
      refine t_exit ?_
      obtain rfl:=someE hm
      exact t_e [3]
     refine t_skip (t_seq (t_block (t_starts ?_)))
     obtain ⟨ho21,hm⟩:=chkE hm
     refine t_b 2 [3,15,16,17,20] [vI v17,vL a7 c_.a8,vI (ln c_.a8),vI v18,.agg ⟨e4 (gi c_.a8 v18) (a7.s (v18).toNat)⟩] [ki 2 ho21,⟨some (.agg ⟨e4 (gi c_.a8 v18) (a7.s (v18).toNat)⟩),fun wz => V.atN (ab a7.a) (ao a7.a + (v18).toNat * 7) (e4 (gi c_.a8 v18) (a7.s (v18).toNat)) 0 wz,fun _ hS => ((hS.im 2 rfl).atA ho21 0 rfl)⟩] ?_
     refine t_m [] [0,1,2] [3,15,16,17,20] [vI v17,vL a7 c_.a8,vI (ln c_.a8),vI v18,.agg ⟨e4 (gi c_.a8 v18) (a7.s (v18).toNat)⟩] (fun _ _ H23 hd => o_alloc [vU 0,vN,vI 0,vN,vO,vF,vO] (z:=vG [vU 0,vN,vI 0,vN,vO,vF,vO]) hd (by kernel_rfl) rfl) fun b24 => ?_
     refine t_m0 [0] [1,2,3] [3,5,15,16,17] [vI v17,vP b24,vL a7 c_.a8,vI (ln c_.a8),vI v18] (fun _ _ H26 hd => o_store (e4 (gi c_.a8 v18) (a7.s (v18).toNat)) H26 hd rfl rfl (by kernel_rfl) rfl rfl rfl) (t_end ?_)
     obtain ⟨y29,hy29,hm⟩:=bindE hm
     refine t_w [3,15,16,17] [vI (if v17 < y29 then y29 else v17),vL a7 c_.a8,vI (ln c_.a8),vI v18] [kE 0 7,kr fun _ hS => retB_of (s0im (s0im s0nil (eY ((hS.im 3 rfl).el ho21))) (eX ((hS.im 3 rfl).el ho21))) (Tryz.call90 _) (fun w' h' => ih ((a7.s (v18).toNat 0)) ((a7.s (v18).toNat 1)) F0 _ _ hy29 w' h')] (t_sel [1,2,3] ?_)
     refine t_w [3,15,16,17] [vI (if v17 < y29 then y29 else v17),vL a7 c_.a8,vI (ln c_.a8),vI (w64 (v18 + 1))] [] ?_
     exact fun _ _ H33 hS => ⟨_,Nat.lt_succ_self _,if v17 < y29 then y29 else v17,w64 (v18 + 1),hm,FrG.keep (ks:=[15,16,3,17]) H33 (by kernel_rfl),hS⟩
   ·refine t_sel [] ?_
    refine t_r [2] [vI z14] [] (t_ret ?_)
    obtain rfl:=someE hm
    exact t_n [] rs1
def rz (m : Nat) (c_ : ay) : Option (Int):=iE m  m c_
theorem sr {ac : Gh} {a7 : Gh} (m : Nat) (c_ : ay) (r : Int) (hm : rz m c_ = some r) (w : World) (hL : S0 F0 [eI a6 c_.az.Value ac,eI ak c_.a8 a7] w ∧ fpl [eI a6 c_.az.Value ac,eI ak c_.a8 a7] = []) : RetB Tryz.prog 90 ⟨[.agg ⟨e4 c_ (gL [ac,a7])⟩]⟩ (vI r) w:=retB_of hL (Tryz.call90 _) (fun w' h => tN m   m ac a7 F0 c_ r hm w' h)

def dm (c_ : ay) : Bool :=
  lt (cond (cond (c_.bA == []) (c_.Num == 0) false) (c_.az.bA == []) false) fun x13 =>
  lt (cond (cond x13 ((ln c_.az.Value) == 0) false) (!c_.az.bK) false) fun x14 =>
  x14
theorem ip {ac : Gh} {a7 : Gh} (c_ : ay) (w : World) (hL : S0 F0 [eI a6 c_.az.Value ac,eI ak c_.a8 a7] w ∧ fpl [eI a6 c_.az.Value ac,eI ak c_.a8 a7] = []) : RetB Tryz.prog 150 ⟨[.agg ⟨e4 c_ (gL [ac,a7])⟩]⟩ (vB (dm c_)) w:=by
 generalize hm : dm c_ = r
 rw [dm] at hm
 refine f_read hL (Tryz.call150 _) Tryz.func150 Tryz.ntmps150 fun M X w => (t_starts ?_)
 refine t_m [] [0,1] [] [] (fun _ _ H hd => o_box (e4 c_ (gL [ac,a7])) H hd rfl rfl) fun b1 => ?_
 refine t_b 2 [1] [vP b1] [] (t_end (t_starts ?_))
 refine t_b 2 [1,5] [vP b1,.agg ⟨e11 c_.az (gL [ac])⟩] [⟨some (.agg ⟨e11 c_.az (gL [ac])⟩),fun wz => V.atN b1 3 (e11 c_.az (gL [ac])) 0 wz,fun _ hS => ((hS.bk 0 rfl).atD rfl)⟩] ?_
 refine t_m [] [0,1,2] [1,5] [vP b1,.agg ⟨e11 c_.az (gL [ac])⟩] (fun _ _ H7 hd => o_alloc [vN,vO,vF] (z:=vG [vN,vO,vF]) hd (by kernel_rfl) rfl) fun b8 => ?_
 refine t_m0 [0] [1,2,3] [1,3] [vP b1,vP b8] (fun _ _ H10 hd => o_store (e11 c_.az (gL [ac])) H10 hd rfl rfl (by kernel_rfl) rfl rfl rfl) (t_end ?_)
 obtain ⟨x13,hx13,hm⟩:=letE hm
 obtain ⟨x14,hx14,hm⟩:=letE hm
 refine t_r [2] [vB x14] [kb 1 1,kgb ((c_.bA == []) = true ∧ True) 1 2,kgb ((cond (c_.bA == []) (c_.Num == 0) false) = true ∧ True) 0 0,kgb (x13 = true ∧ True) 0 1,kgb ((cond x13 ((ln c_.az.Value) == 0) false) = true ∧ True) 0 2] ?_ (he:=by subst hx13 hx14; kernel_rfl)
 refine t_sel [] (t_ret ?_)
 subst hm
 exact t_n [] rs1

def dO (m : Nat) (s : List Str) (v_ : Str) : Nat → Int → Option (Sum (Int) (Unit))
  | 0,_ => none
  | kk + 1,v6 =>
    cond (decide (v6 < (ln s))) (
    chk (0 ≤ v6 ∧ v6 < ln s) <|
    cond (v_ == (gi s v6)) (
    some (.inl v6)) (
    dO m s v_ kk (w64 (v6 + 1)))) (
    some (.inr ()))
def ff (m : Nat) (s : List Str) (v_ : Str) : Option (Int) :=
  Option.bind (
  dO m s v_ m 0) fun (z3 : Sum (Int) (Unit)) => sumK z3 fun s_z3 =>
  some (-1)
theorem kS {g_s : Gh} (m : Nat) (s : List Str) (v_ : Str) (r : Int) (hm : ff m s v_ = some r) (w : World) (hL : S0 F0 [eI tS s g_s] w ∧ fpl [eI tS s g_s] = []) : RetB Tryz.prog 214 ⟨[vL g_s s,vS v_]⟩ (vI r) w:=by
 rw [ff] at hm
 refine f_read hL (Tryz.call214 _) Tryz.func214 Tryz.ntmps214 fun M X w => ?_
 refine t_r [0,1] [vL g_s s,vS v_] [] ?_
 obtain ⟨z3,hz,hm_z3⟩:=bindE hm
 intro _ _ H2 hS
 refine w_cut (fun a' w' => ∃ s_z3 : Unit,z3 = Sum.inr s_z3 ∧ Fr 19 [] a' ∧ SH M X w [eI tS s g_s] w') ?_ ?_
 ·replace hm:=hz
  refine t_in H2 hS ?_
  refine t_r [0,1,7,8] [vL g_s s,vS v_,vI (ln s),vI 0] [] (t_block ?_)
  intro _ _ H5 hS
  refine w_loop (fun kk a' w' => ∃ (v6 : Int),dO m s v_ kk v6 = some _ ∧ Fr 19 (fS [0,1,7,8] [vL g_s s,vS v_,vI (ln s),vI v6]) a' ∧ SH M X w [eI tS s g_s] w') ⟨_,0,hm,FrG.keep (ks:=[0,1,7,8]) H5 (by kernel_rfl),hS⟩ ?_
  clear hm H5 hS
  rintro kk _ _ ⟨v6,hm,H,hS⟩
  cases kk with
  | zero => exact noneE hm
  | succ kk =>
   rw [dO] at hm
   refine t_in H hS ?_
   refine t_r [0,1,7,8,9] [vL g_s s,vS v_,vI (ln s),vI v6,vB (decide (v6 < (ln s)))] [] (t_seq ?_)
   refine t_im hm (fun hm => ?_) (fun hm => ?c19)
   case c19 =>
    refine t_exit ?_
    obtain rfl:=someE hm
    exact fun _ _ H8 hS => ⟨_,rfl,FrG.keep (ks:=[]) H8 (by kernel_rfl),hS⟩
   refine t_skip (t_seq (t_block ?_))
   refine t_r [0,1,5,7,8] [vL g_s s,vS v_,vI v6,vI (ln s),vI v6] [] ?_
   obtain ⟨ho11,hm⟩:=chkE hm
   refine t_r [0,1,5,7,8,16] [vL g_s s,vS v_,vI v6,vI (ln s),vI v6,vB (v_ == (gi s v6))] [ki 0 ho11,kj 0 0 ho11] ?_
   refine t_im hm (fun hm => ?_) (fun hm => ?c18)
   case c18 =>
    refine t_skip ?_
    refine t_w [0,1,7,8] [vL g_s s,vS v_,vI (ln s),vI (w64 (v6 + 1))] [] ?_
    exact fun _ _ H17 hS => ⟨_,Nat.lt_succ_self _,w64 (v6 + 1),hm,FrG.keep (ks:=[0,1,7,8]) H17 (by kernel_rfl),hS⟩
   refine t_r [4] [vI v6] [] (t_ret ?_)
   obtain rfl:=someE hm
   have hm:=hm_z3
   obtain rfl:=someE hm
   exact t_n [] rs1
 ·rintro _ _ ⟨s_z3,hz,H,hS⟩
  subst hz
  replace hm:=sumR hm_z3
  replace hS : SH M X w [] _:=hS.sel [] rfl
  refine t_in H hS ?_
  refine t_r [4] [vI (-1)] [] (t_ret ?_)
  obtain rfl:=someE hm
  exact t_n [] rs1

def cw (m : Nat) (s : List Str) (v_ : Str) : Option (Bool) :=
  Option.bind (ff m s v_) fun y3 =>
  some (decide (0 ≤ y3))
theorem dt {g_s : Gh} (m : Nat) (s : List Str) (v_ : Str) (r : Bool) (hm : cw m s v_ = some r) (w : World) (hL : S0 F0 [eI tS s g_s] w ∧ fpl [eI tS s g_s] = []) : RetB Tryz.prog 155 ⟨[vL g_s s,vS v_]⟩ (vB r) w:=by
 rw [cw] at hm
 refine f_read hL (Tryz.call155 _) Tryz.func155 Tryz.ntmps155 fun M X w => ?_
 refine t_r [0,1] [vL g_s s,vS v_] [] ?_
 obtain ⟨y3,hy3,hm⟩:=bindE hm
 refine t_r [4] [vB (decide (0 ≤ y3))] [kr fun _ hS => kS (g_s:=g_s) m _ _ _ hy3 _ (s0im s0nil (hS.im 0 rfl))] (t_sel [] (t_ret ?_))
 obtain rfl:=someE hm
 exact t_n [] rs1

def o9 (m : Nat) (s : Str) : Option (Bool) :=
  Option.bind (cw 64 kL6 s) fun y7 =>
  Option.bind (cond (cond (!y7) (decide ((ln s) ≤ 64)) false) (ib m s) (some default)) fun y10 =>
  lt (cond (cond (!y7) (decide ((ln s) ≤ 64)) false) (y10 == s) false) fun x11 =>
  lt (cond x11 (decide ((strings_IndexByte s 0) < 0)) false) fun x12 =>
  some x12
theorem sS  (m : Nat) (s : Str) (r : Bool) (hm : o9 m s = some r) : Ret Tryz.prog 248 ⟨[vS s]⟩ (vB r):=by
 rw [o9] at hm
 refine f_pure (Tryz.call248 _) Tryz.func248 Tryz.ntmps248 fun M X w => ?_
 refine t_r [0] [vS s] [] (t_starts ?_)
 refine t_m [] [] [0] [vS s] (fun _ _ H2 hd => o_li (T:=tS) (E:=9) (zv:=vN) [vN,vS [97,110,100],vS [111,114],vS [110,111,116],vS [111,110,108,121]] kL6 [gL [],gL [],gL [],gL [],gL []] H2 hd rfl (InnL.cons trivial (InnL.cons trivial (InnL.cons trivial (InnL.cons trivial (InnL.cons trivial InnL.nil)))))) fun g3 => ?_
 obtain ⟨y7,hy7,hm⟩:=bindE hm
 refine t_b 4 [0,3] [vS s,vB y7] [kr fun _ hS => dt (g_s:=g3) 64 _ _ _ hy7 _ (s0im s0nil (hS.osl 0 rfl))] (t_end (t_sel [] ?_))
 obtain ⟨y10,hy10,hm⟩:=bindE hm
 obtain ⟨x11,hx11,hm⟩:=letE hm
 obtain ⟨x12,hx12,hm⟩:=letE hm
 refine t_r [2] [vB x12] [kgc ((cond (!y7) (decide ((ln s) ≤ 64)) false) = true ∧ True) fun hg => (h7 m _ _ (bT (hg.1) hy10)),kgc (x11 = true ∧ True) fun hg => (eV s 0)] ?_ (he:=by subst hx11 hx12; kernel_rfl)
 refine t_ret ?_
 obtain rfl:=someE hm
 exact t_n [] rs1

def jn (m : Nat) (l_ : List Int) : Nat → Int → Option (Unit)
  | 0,_ => none
  | kk + 1,v6 =>
    cond (decide (v6 < (ln l_))) (
    chk (0 ≤ v6 ∧ v6 < ln l_) <|
    lt (cond (decide ((gi l_ v6) < (-1000000000000))) true (decide (1000000000000 < (gi l_ v6)))) fun x12 =>
    cond x12 (
    none) (
    jn m l_ kk (w64 (v6 + 1)))) (
    some ())
def nU (m : Nat) (l_ : List Int) : Option (Int) :=
  Option.bind (
  jn m l_ m 0) fun (z3 : Unit) =>
  some 0
theorem sx {aa : Gh} (m : Nat) (l_ : List Int) (r : Int) (hm : nU m l_ = some r) (w : World) (hL : S0 F0 [eI (tI .i64) l_ aa] w ∧ fpl [eI (tI .i64) l_ aa] = []) : RetB Tryz.prog 283 ⟨[vL aa l_]⟩ (vI r) w:=by
 rw [nU] at hm
 refine f_read hL (Tryz.call283 _) Tryz.func283 Tryz.ntmps283 fun M X w => ?_
 refine t_r [0] [vL aa l_] [] ?_
 obtain ⟨z3,hz,hm⟩:=bindE hm
 refine t_cut [] [] [eI (tI .i64) l_ aa] ?_ ?_
 ·replace hm:=hz
  refine t_r [5,6,7] [vL aa l_,vI (ln l_),vI 0] [] (t_block ?_)
  intro _ _ H5 hS
  refine w_loop (fun kk a' w' => ∃ (v6 : Int),jn m l_ kk v6 = some _ ∧ Fr 18 (fS [5,6,7] [vL aa l_,vI (ln l_),vI v6]) a' ∧ SH M X w [eI (tI .i64) l_ aa] w') ⟨_,0,hm,FrG.keep (ks:=[5,6,7]) H5 (by kernel_rfl),hS⟩ ?_
  clear hm H5 hS
  rintro kk _ _ ⟨v6,hm,H,hS⟩
  cases kk with
  | zero => exact noneE hm
  | succ kk =>
   rw [jn] at hm
   refine t_in H hS ?_
   refine t_r [5,6,7,8] [vL aa l_,vI (ln l_),vI v6,vB (decide (v6 < (ln l_)))] [] (t_seq ?_)
   refine t_im hm (fun hm => ?_) (fun hm => ?c18)
   case c18 =>
    refine t_exit ?_
    obtain rfl:=someE hm
    exact t_e []
   refine t_skip (t_seq (t_block ?_))
   obtain ⟨ho9,hm⟩:=chkE hm
   refine t_r [4,5,6,7] [vI (gi l_ v6),vL aa l_,vI (ln l_),vI v6] [ki 0 ho9,kj 0 0 ho9] ?_
   obtain ⟨x12,hx12,hm⟩:=letE hm
   refine t_r [5,6,7,16] [vL aa l_,vI (ln l_),vI v6,vB x12] [] ?_ (he:=by subst hx12; kernel_rfl)
   refine t_i2 hm (fun hm => ?_)
   refine t_skip ?_
   refine t_w [5,6,7] [vL aa l_,vI (ln l_),vI (w64 (v6 + 1))] [] ?_
   exact fun _ _ H16 hS => ⟨_,Nat.lt_succ_self _,w64 (v6 + 1),hm,FrG.keep (ks:=[5,6,7]) H16 (by kernel_rfl),hS⟩
 ·refine t_sel [] ?_
  refine t_r [2] [vI 0] [] (t_ret ?_)
  obtain rfl:=someE hm
  exact t_n [] rs1

def oi (m : Nat) (n_ : Int) : Option (Int) :=
  Option.bind (nU m ([n_] : List Int)) fun y9 =>
  some y9
theorem st  (m : Nat) (n_ : Int) (r : Int) (hm : oi m n_ = some r) : Ret Tryz.prog 249 ⟨[vI n_]⟩ (vI r):=by
 rw [oi] at hm
 refine f_pure (Tryz.call249 _) Tryz.func249 Tryz.ntmps249 fun M X w => ?_
 refine t_r [0] [vI n_] [] (t_starts ?_)
 refine t_b 1 [3] [vI n_] [] ?_
 refine t_m [] [] [] [] (fun _ _ H4 hd => o_li (T:=(tI .i64)) (E:=2) (zv:=vI 0) [vI n_] ([n_] : List Int) [gL []] H4 hd rfl (InnL.cons trivial InnL.nil)) fun g5 => ?_
 obtain ⟨y9,hy9,hm⟩:=bindE hm
 refine t_b 4 [2] [vI y9] [kr fun _ hS => sx (aa:=g5) m _ _ hy9 _ (s0im s0nil (hS.osl 0 rfl))] (t_end (t_sel [] (t_ret ?_)))
 obtain rfl:=someE hm
 exact t_n [] rs1

def kD (m : Nat) (c_ : ay) : Nat → Int → Option (Unit)
  | 0,_ => none
  | kk + 1,v12 =>
    cond (decide (v12 < (ln c_.a8))) (
    Option.bind (
    chk (0 ≤ v12 ∧ v12 < ln c_.a8) <|
    lt (decide (0 < (ln ((gi c_.a8 v12).a8)))) fun x41 =>
    lt (dm (ay.mk ((gi c_.a8 v12).aj) [] 0 ((gi c_.a8 v12).az) ((gi c_.a8 v12).a8))) fun y42 =>
    cond (cond x41 true (!y42)) (
    none) (
    cond (((gi c_.a8 v12).aj) == 4) (
    lt (cond (decide (0 < v12)) true (((gi c_.a8 v12).Num) != 0)) fun x49 =>
    Option.bind (cond x49 (some default) (o9 m ((gi c_.a8 v12).bA))) fun y50 =>
    cond (cond x49 true (!y50)) (
    none) (
    some ())) (
    Option.bind (
    cond (((gi c_.a8 v12).aj) == 5) (
    some (((gi c_.a8 v12).aj) == 5)) (
    some (((gi c_.a8 v12).aj) == 6))) fun (z54 : Bool) =>
    cond z54 (
    lt (cond (!(((gi c_.a8 v12).bA) == [])) true (decide (((gi c_.a8 v12).Num) < 0))) fun x60 =>
    Option.bind (cond x60 (some default) (oi m ((gi c_.a8 v12).Num))) fun y61 =>
    cond (cond x60 true (y61 != 0)) (
    none) (
    some ())) (
    none)))) fun (z15 : Unit) =>
    kD m c_ kk (w64 (v12 + 1))) (
    some ())
def nN (m : Nat) (c_ : ay) : Option (Bool) :=
  lt (cond (c_.aj != 1) true (!(dm c_))) fun x6 =>
  cond (cond x6 true ((ln c_.a8) == 0)) (
  none) (
  Option.bind (
  kD m c_ m 0) fun (z9 : Unit) =>
  some true)
theorem p7 {ac : Gh} {a7 : Gh} (m : Nat) (c_ : ay) (r : Bool) (hm : nN m c_ = some r) (w : World) (hL : S0 F0 [eI a6 c_.az.Value ac,eI ak c_.a8 a7] w ∧ fpl [eI a6 c_.az.Value ac,eI ak c_.a8 a7] = []) : RetB Tryz.prog 210 ⟨[.agg ⟨e4 c_ (gL [ac,a7])⟩]⟩ (vB r) w:=by
 rw [nN] at hm
 refine f_read hL (Tryz.call210 _) Tryz.func210 Tryz.ntmps210 fun M X w => (t_starts ?_)
 refine t_m [] [0,1] [] [] (fun _ _ H hd => o_box (e4 c_ (gL [ac,a7])) H hd rfl rfl) fun b1 => ?_
 refine t_b 2 [1] [vP b1] [] (t_end (t_seq ?_))
 obtain ⟨x6,hx6,hm⟩:=letE hm
 refine t_r [1,19] [vP b1,vB (cond x6 true ((ln c_.a8) == 0))] [kb 0 0,⟨some (.agg ⟨e4 c_ (gL [ac,a7])⟩),fun wz => ((c_.aj != 1) = false ∧ True → V.atN b1 0 (e4 c_ (gL [ac,a7])) 0 wz),fun _ hS => fun hg => (hS.bk 0 rfl).atD rfl⟩,⟨some (vB (dm c_)),fun wz => ((c_.aj != 1) = false ∧ True → RetB Tryz.prog 150 ⟨[.agg ⟨e4 c_ (gL [ac,a7])⟩]⟩ (vB (dm c_)) wz),fun _ hS => fun hg => ip (ac:=ac) (a7:=a7) c_ _ (s0im (s0im s0nil (hS.im 2 rfl)) (hS.im 1 rfl))⟩,kgb (x6 = false ∧ True) 0 6] ?_ (he:=by subst hx6; kernel_rfl)
 refine t_i2 hm (fun hm => ?_)
 refine t_skip ?_
 obtain ⟨z9,hz,hm⟩:=bindE hm
 refine t_cut [] [] [eB b1 (e4 c_ (gL [ac,a7])),eI a6 c_.az.Value ac,eI ak c_.a8 a7] ?_ ?_
 ·replace hm:=hz
  refine t_r [21,22,23] [vL a7 c_.a8,vI (ln c_.a8),vI 0] [kb 0 6] (t_block ?_)
  intro _ _ H11 hS
  refine w_loop (fun kk a' w' => ∃ (v12 : Int),kD m c_ kk v12 = some _ ∧ Fr 75 (fS [21,22,23] [vL a7 c_.a8,vI (ln c_.a8),vI v12]) a' ∧ SH M X w [eB b1 (e4 c_ (gL [ac,a7])),eI a6 c_.az.Value ac,eI ak c_.a8 a7] w') ⟨_,0,hm,FrG.keep (ks:=[21,22,23]) H11 (by kernel_rfl),hS⟩ ?_
  clear hm H11 hS
  rintro kk _ _ ⟨v12,hm,H,hS⟩
  cases kk with
  | zero => exact noneE hm
  | succ kk =>
   rw [kD] at hm
   refine t_in H hS ?_
   refine t_r [21,22,23,24] [vL a7 c_.a8,vI (ln c_.a8),vI v12,vB (decide (v12 < (ln c_.a8)))] [] (t_seq ?_)
   refine t_im hm (fun hm => ?_) (fun hm => ?c72)
   case c72 =>
    refine t_exit ?_
    obtain rfl:=someE hm
    exact t_e []
   refine t_skip ?_
   obtain ⟨z15,hz,hm⟩:=bindE hm
   refine t_cut [21,22,23] [vL a7 c_.a8,vI (ln c_.a8),vI v12] [eB b1 (e4 c_ (gL [ac,a7])),eI a6 c_.az.Value ac,eI ak c_.a8 a7] ?_ ?_
   ·replace hm:=hz
    refine t_block (t_starts ?_)
    obtain ⟨ho16,hm⟩:=chkE hm
    refine t_b 3 [21,22,23,25,27] [vL a7 c_.a8,vI (ln c_.a8),vI v12,vI v12,.agg ⟨e4 (gi c_.a8 v12) (a7.s (v12).toNat)⟩] [ki 2 ho16,⟨some (.agg ⟨e4 (gi c_.a8 v12) (a7.s (v12).toNat)⟩),fun wz => V.atN (ab a7.a) (ao a7.a + (v12).toNat * 7) (e4 (gi c_.a8 v12) (a7.s (v12).toNat)) 0 wz,fun _ hS => ((hS.im 2 rfl).atA ho16 0 rfl)⟩] ?_
    refine t_m [] [0,1,2] [21,22,23,25,27] [vL a7 c_.a8,vI (ln c_.a8),vI v12,vI v12,.agg ⟨e4 (gi c_.a8 v12) (a7.s (v12).toNat)⟩] (fun _ _ H18 hd => o_alloc [vU 0,vN,vI 0,vN,vO,vF,vO] (z:=vG [vU 0,vN,vI 0,vN,vO,vF,vO]) hd (by kernel_rfl) rfl) fun b19 => ?_
    refine t_b 5 [3,4,21,22,23,27] [vI v12,vP b19,vL a7 c_.a8,vI (ln c_.a8),vI v12,.agg ⟨e4 (gi c_.a8 v12) (a7.s (v12).toNat)⟩] [] ?_
    refine t_m0 [0] [1,2,3] [3,4,21,22,23] [vI v12,vP b19,vL a7 c_.a8,vI (ln c_.a8),vI v12] (fun _ _ H23 hd => o_store (e4 (gi c_.a8 v12) (a7.s (v12).toNat)) H23 hd rfl rfl (by kernel_rfl) rfl rfl rfl) (t_end (t_starts ?_))
    refine t_b 1 [3,4,21,22,23,28] [vI v12,vP b19,vL a7 c_.a8,vI (ln c_.a8),vI v12,.agg ⟨e4 (gi c_.a8 v12) (a7.s (v12).toNat)⟩] [kE 0 7] ?_
    refine t_m [] [0,1,2,3] [3,4,21,22,23,28] [vI v12,vP b19,vL a7 c_.a8,vI (ln c_.a8),vI v12,.agg ⟨e4 (gi c_.a8 v12) (a7.s (v12).toNat)⟩] (fun _ _ H27 hd => o_alloc [vU 0,vN,vI 0,vN,vO,vF,vO] (z:=vG [vU 0,vN,vI 0,vN,vO,vF,vO]) hd (by kernel_rfl) rfl) fun b28 => ?_
    refine t_m0 [0] [1,2,3,4] [3,4,5,21,22,23] [vI v12,vP b19,vP b28,vL a7 c_.a8,vI (ln c_.a8),vI v12] (fun _ _ H30 hd => o_store (e4 (gi c_.a8 v12) (a7.s (v12).toNat)) H30 hd rfl rfl (by kernel_rfl) rfl rfl rfl) (t_end (t_seq (t_starts ?_)))
    refine t_b 1 [3,4,5,21,22,23,29] [vI v12,vP b19,vP b28,vL a7 c_.a8,vI (ln c_.a8),vI v12,vA b28 1] [] ?_
    refine t_m0 [0] [1,2,3,4] [3,4,5,21,22,23] [vI v12,vP b19,vP b28,vL a7 c_.a8,vI (ln c_.a8),vI v12] (fun _ _ H34 hd => o_store [vU ((gi c_.a8 v12).aj),vN,vI ((gi c_.a8 v12).Num),vS (gi c_.a8 v12).az.bA,.slice (a7.s (v12).toNat 0).a (((gi c_.a8 v12).az.Value).length) (a7.s (v12).toNat 0).c,vB ((gi c_.a8 v12).az.bK),.slice (a7.s (v12).toNat 1).a (((gi c_.a8 v12).a8).length) (a7.s (v12).toNat 1).c] H34 hd rfl rfl (by kernel_rfl) rfl rfl rfl) ?_
    refine t_b 3 [3,4,5,21,22,23,30] [vI v12,vP b19,vP b28,vL a7 c_.a8,vI (ln c_.a8),vI v12,vA b28 2] [] ?_
    refine t_m0 [0] [1,2,3,4] [3,4,5,21,22,23] [vI v12,vP b19,vP b28,vL a7 c_.a8,vI (ln c_.a8),vI v12] (fun _ _ H38 hd => o_store [vU ((gi c_.a8 v12).aj),vN,vI 0,vS (gi c_.a8 v12).az.bA,.slice (a7.s (v12).toNat 0).a (((gi c_.a8 v12).az.Value).length) (a7.s (v12).toNat 0).c,vB ((gi c_.a8 v12).az.bK),.slice (a7.s (v12).toNat 1).a (((gi c_.a8 v12).a8).length) (a7.s (v12).toNat 1).c] H38 hd rfl rfl (by kernel_rfl) rfl rfl rfl) (t_end ?_)
    obtain ⟨x41,hx41,hm⟩:=letE hm
    obtain ⟨y42,hy42,hm⟩:=letE hm
    refine t_r [3,4,21,22,23,39] [vI v12,vP b19,vL a7 c_.a8,vI (ln c_.a8),vI v12,vB (cond x41 true (!y42))] [kb 1 6,⟨some (vG [vU ((gi c_.a8 v12).aj),vN,vI 0,vS (gi c_.a8 v12).az.bA,.slice (a7.s (v12).toNat 0).a (((gi c_.a8 v12).az.Value).length) (a7.s (v12).toNat 0).c,vB ((gi c_.a8 v12).az.bK),.slice (a7.s (v12).toNat 1).a (((gi c_.a8 v12).a8).length) (a7.s (v12).toNat 1).c]),fun wz => (x41 = false ∧ True → V.atN b28 0 [vU ((gi c_.a8 v12).aj),vN,vI 0,vS (gi c_.a8 v12).az.bA,.slice (a7.s (v12).toNat 0).a (((gi c_.a8 v12).az.Value).length) (a7.s (v12).toNat 0).c,vB ((gi c_.a8 v12).az.bK),.slice (a7.s (v12).toNat 1).a (((gi c_.a8 v12).a8).length) (a7.s (v12).toNat 1).c] 0 wz),fun _ hS => fun hg => (hS.bk 0 rfl).atD rfl⟩,⟨some (vB y42),fun wz => (x41 = false ∧ True → RetB Tryz.prog 150 ⟨[vG [vU ((gi c_.a8 v12).aj),vN,vI 0,vS (gi c_.a8 v12).az.bA,.slice (a7.s (v12).toNat 0).a (((gi c_.a8 v12).az.Value).length) (a7.s (v12).toNat 0).c,vB ((gi c_.a8 v12).az.bK),.slice (a7.s (v12).toNat 1).a (((gi c_.a8 v12).a8).length) (a7.s (v12).toNat 1).c]]⟩ (vB y42) wz),fun _ hS => fun hg => (by rw [hy42]; exact ip (ac:=(a7.s (v12).toNat 0)) (a7:=(a7.s (v12).toNat 1)) (ay.mk ((gi c_.a8 v12).aj) [] 0 ((gi c_.a8 v12).az) ((gi c_.a8 v12).a8)) _ (s0im (s0im s0nil (have h:=eY ((hS.im 4 rfl).el ho16); h)) (have h:=eX ((hS.im 4 rfl).el ho16); h)))⟩] ?_ (he:=by subst hx41 hy42; kernel_rfl)
    refine t_sel [1,2,3,4] ?_
    refine t_i2 hm (fun hm => ?_)
    refine t_skip ?_
    refine t_r [3,4,21,22,23,41] [vI v12,vP b19,vL a7 c_.a8,vI (ln c_.a8),vI v12,vU ((gi c_.a8 v12).aj)] [kb 0 0] (t_block ?_)
    refine t_r [3,4,21,22,23,41,42] [vI v12,vP b19,vL a7 c_.a8,vI (ln c_.a8),vI v12,vU ((gi c_.a8 v12).aj),vB (((gi c_.a8 v12).aj) == 4)] [] ?_
    refine t_im hm (fun hm => ?c67) (fun hm => ?_)
    case c67 =>
     obtain ⟨x49,hx49,hm⟩:=letE hm
     obtain ⟨y50,hy50,hm⟩:=bindE hm
     refine t_r [21,22,23,56] [vL a7 c_.a8,vI (ln c_.a8),vI v12,vB (cond x49 true (!y50))] [kgb ((decide (0 < v12)) = false ∧ True) 0 2,kgb (x49 = false ∧ True) 0 1,kgc (x49 = false ∧ True) fun hg => (sS m _ _ (bF (hg.1) hy50))] ?_ (he:=by subst hx49; kernel_rfl)
     refine t_sel [1,2,3] ?_
     refine t_i2 hm (fun hm => ?_)
     refine t_skip ?_
     obtain rfl:=someE hm
     exact t_e [21,22,23]
    obtain ⟨z54,hz,hm⟩:=bindE hm
    refine t_cut [4,21,22,23,57] [vP b19,vL a7 c_.a8,vI (ln c_.a8),vI v12,vB z54] [eB b19 (e4 (gi c_.a8 v12) (a7.s (v12).toNat)),eB b1 (e4 c_ (gL [ac,a7])),eI a6 c_.az.Value ac,eI ak c_.a8 a7] ?_ ?_
    ·replace hm:=hz
     refine t_r [4,21,22,23,41,57] [vP b19,vL a7 c_.a8,vI (ln c_.a8),vI v12,vU ((gi c_.a8 v12).aj),vB (((gi c_.a8 v12).aj) == 5)] [] ?_
     refine t_im hm (fun hm => ?c59) (fun hm => ?_)
     case c59 =>
      refine t_skip ?_
      obtain rfl:=someE hm
      exact t_e [4,21,22,23,57]
     refine t_w [4,21,22,23,57] [vP b19,vL a7 c_.a8,vI (ln c_.a8),vI v12,vB (((gi c_.a8 v12).aj) == 6)] [] ?_
     obtain rfl:=someE hm
     exact t_e [4,21,22,23,57]
    ·refine t_if (fun hc => ?_) (fun hc => ?c65)
     case c65 =>
      replace hm:=bF hc hm
      intro _ _ H hS
      exact noneE hm
     replace hm:=bT hc hm
     obtain ⟨x60,hx60,hm⟩:=letE hm
     obtain ⟨y61,hy61,hm⟩:=bindE hm
     refine t_r [21,22,23,73] [vL a7 c_.a8,vI (ln c_.a8),vI v12,vB (cond x60 true (y61 != 0))] [kb 0 1,kgb ((!(((gi c_.a8 v12).bA) == [])) = false ∧ True) 0 2,kgb (x60 = false ∧ True) 0 2,kgc (x60 = false ∧ True) fun hg => (st m _ _ (bF (hg.1) hy61))] ?_ (he:=by subst hx60; kernel_rfl)
     refine t_sel [1,2,3] ?_
     refine t_i2 hm (fun hm => ?_)
     refine t_skip ?_
     obtain rfl:=someE hm
     exact t_e [21,22,23]
   ·refine t_w [21,22,23] [vL a7 c_.a8,vI (ln c_.a8),vI (w64 (v12 + 1))] [] ?_
    exact fun _ _ H70 hS => ⟨_,Nat.lt_succ_self _,w64 (v12 + 1),hm,FrG.keep (ks:=[21,22,23]) H70 (by kernel_rfl),hS⟩
 ·refine t_sel [] ?_
  refine t_r [2] [vT] [] (t_ret ?_)
  obtain rfl:=someE hm
  exact t_n [] rs1

def pR (c_ : ay) : Option (Bool) :=
  chk ((decide (0 < (ln c_.a8))) = true → 0 ≤ (0 : Int) ∧ (0 : Int) < ln c_.a8) <|
  lt (cond (decide (0 < (ln c_.a8))) (((gi c_.a8 (0 : Int)).aj) == 4) false) fun x7 =>
  some x7
theorem tA {ac : Gh} {a7 : Gh} (c_ : ay) (r : Bool) (hm : pR c_ = some r) (w : World) (hL : S0 F0 [eI a6 c_.az.Value ac,eI ak c_.a8 a7] w ∧ fpl [eI a6 c_.az.Value ac,eI ak c_.a8 a7] = []) : RetB Tryz.prog 211 ⟨[.agg ⟨e4 c_ (gL [ac,a7])⟩]⟩ (vB r) w:=by
 rw [pR] at hm
 refine f_read hL (Tryz.call211 _) Tryz.func211 Tryz.ntmps211 fun M X w => (t_starts ?_)
 refine t_m [] [0,1] [] [] (fun _ _ H hd => o_box (e4 c_ (gL [ac,a7])) H hd rfl rfl) fun b1 => ?_
 refine t_b 2 [1] [vP b1] [] (t_end ?_)
 obtain ⟨ho6,hm⟩:=chkE hm
 obtain ⟨x7,hx7,hm⟩:=letE hm
 refine t_r [2] [vB x7] [kb 0 6,kgb ((decide (0 < (ln c_.a8))) = true ∧ True) 0 6,kgi ((decide (0 < (ln c_.a8))) = true ∧ True) 2 fun hg => (ho6 hg.1),kgj ((decide (0 < (ln c_.a8))) = true ∧ True) 2 0 fun hg => (ho6 hg.1)] ?_ (he:=by subst hx7; kernel_rfl)
 refine t_sel [] (t_ret ?_)
 obtain rfl:=someE hm
 exact t_n [] rs1

def qS (m : Nat) (c_ : ay) : Option (Bool) :=
  cond (c_.aj == 3) (
  lt (cond (dm c_) ((ln c_.a8) == 1) false) fun x8 =>
  chk (x8 = true → 0 ≤ (0 : Int) ∧ (0 : Int) < ln c_.a8) <|
  Option.bind (cond x8 (nN m (gi c_.a8 (0 : Int))) (some default)) fun y10 =>
  chk ((cond x8 y10 false) = true → 0 ≤ (0 : Int) ∧ (0 : Int) < ln c_.a8) <|
  Option.bind (cond (cond x8 y10 false) (pR (gi c_.a8 (0 : Int))) (some default)) fun y12 =>
  some (cond (cond x8 y10 false) y12 false)) (
  Option.bind (nN m c_) fun y15 =>
  some y15)
theorem us {ac : Gh} {a7 : Gh} (m : Nat) (c_ : ay) (r : Bool) (hm : qS m c_ = some r) (w : World) (hL : S0 F0 [eI a6 c_.az.Value ac,eI ak c_.a8 a7] w ∧ fpl [eI a6 c_.az.Value ac,eI ak c_.a8 a7] = []) : RetB Tryz.prog 149 ⟨[.agg ⟨e4 c_ (gL [ac,a7])⟩]⟩ (vB r) w:=by
 rw [qS] at hm
 refine f_read hL (Tryz.call149 _) Tryz.func149 Tryz.ntmps149 fun M X w => (t_starts ?_)
 refine t_m [] [0,1] [] [] (fun _ _ H hd => o_box (e4 c_ (gL [ac,a7])) H hd rfl rfl) fun b1 => ?_
 refine t_b 2 [1] [vP b1] [] (t_end (t_seq ?_))
 refine t_r [1,5] [vP b1,vB (c_.aj == 3)] [kb 0 0] ?_
 refine t_im hm (fun hm => ?_) (fun hm => ?c18)
 case c18 =>
  refine t_skip ?_
  obtain ⟨y15,hy15,hm⟩:=bindE hm
  refine t_r [2] [vB y15] [kE 0 7,kr fun _ hS => p7 (ac:=ac) (a7:=a7) m _ _ hy15 _ (s0im (s0im s0nil (hS.im 2 rfl)) (hS.im 1 rfl))] (t_sel [] (t_ret ?_))
  obtain rfl:=someE hm
  exact t_n [] rs1
 obtain ⟨x8,hx8,hm⟩:=letE hm
 obtain ⟨ho9,hm⟩:=chkE hm
 obtain ⟨y10,hy10,hm⟩:=bindE hm
 obtain ⟨ho11,hm⟩:=chkE hm
 obtain ⟨y12,hy12,hm⟩:=bindE hm
 refine t_r [2] [vB (cond (cond x8 y10 false) y12 false)] [kE 0 7,⟨some (vB (dm c_)),rB 150 [.agg ⟨e4 c_ (gL [ac,a7])⟩] (vB (dm c_)),fun _ hS => (ip (ac:=ac) (a7:=a7) c_ _ (s0im (s0im s0nil (hS.im 2 rfl)) (hS.im 1 rfl)))⟩,kgb ((dm c_) = true ∧ True) 0 6,kgb (x8 = true ∧ True) 0 6,kgi (x8 = true ∧ True) 2 fun hg => (ho9 hg.1),⟨some (.agg ⟨e4 (gi c_.a8 (0 : Int)) (a7.s ((0 : Int)).toNat)⟩),fun wz => (x8 = true ∧ True → V.atN (ab a7.a) (ao a7.a + ((0 : Int)).toNat * 7) (e4 (gi c_.a8 (0 : Int)) (a7.s ((0 : Int)).toNat)) 0 wz),fun _ hS => fun hg => (hS.im 2 rfl).atA (ho9 hg.1) 0 rfl⟩,kgr (x8 = true ∧ True) fun _ hS hg => p7 (ac:=(a7.s ((0 : Int)).toNat 0)) (a7:=(a7.s ((0 : Int)).toNat 1)) m _ _ (bT (hg.1) hy10) _ (s0im (s0im s0nil (eY ((hS.im 2 rfl).el (ho9 hg.1)))) (eX ((hS.im 2 rfl).el (ho9 hg.1)))),kgb ((cond x8 y10 false) = true ∧ True) 0 6,kgi ((cond x8 y10 false) = true ∧ True) 2 fun hg => (ho11 hg.1),⟨some (.agg ⟨e4 (gi c_.a8 (0 : Int)) (a7.s ((0 : Int)).toNat)⟩),fun wz => ((cond x8 y10 false) = true ∧ True → V.atN (ab a7.a) (ao a7.a + ((0 : Int)).toNat * 7) (e4 (gi c_.a8 (0 : Int)) (a7.s ((0 : Int)).toNat)) 0 wz),fun _ hS => fun hg => (hS.im 2 rfl).atA (ho11 hg.1) 0 rfl⟩,kgr ((cond x8 y10 false) = true ∧ True) fun _ hS hg => tA (ac:=(a7.s ((0 : Int)).toNat 0)) (a7:=(a7.s ((0 : Int)).toNat 1)) _ _ (bT (hg.1) hy12) _ (s0im (s0im s0nil (eY ((hS.im 2 rfl).el (ho11 hg.1)))) (eX ((hS.im 2 rfl).el (ho11 hg.1))))] ?_ (he:=by subst hx8; kernel_rfl)
 refine t_sel [] (t_ret ?_)
 obtain rfl:=someE hm
 exact t_n [] rs1

def js (m : Nat) (x_ : ay) : Option (Bool) :=
  Option.bind (qS m x_) fun y6 =>
  some (!y6)
theorem og {cQ : Gh} {qU : Gh} (m : Nat) (x_ : ay) (r : Bool) (hm : js m x_ = some r) (w : World) (hL : S0 F0 [eI a6 x_.az.Value cQ,eI ak x_.a8 qU] w ∧ fpl [eI a6 x_.az.Value cQ,eI ak x_.a8 qU] = []) : RetB Tryz.prog 148 ⟨[.agg ⟨e4 x_ (gL [cQ,qU])⟩]⟩ (vB r) w:=by
 rw [js] at hm
 refine f_read hL (Tryz.call148 _) Tryz.func148 Tryz.ntmps148 fun M X w => (t_starts ?_)
 refine t_m [] [0,1] [] [] (fun _ _ H hd => o_box (e4 x_ (gL [cQ,qU])) H hd rfl rfl) fun b1 => ?_
 refine t_b 2 [1] [vP b1] [] (t_end ?_)
 obtain ⟨y6,hy6,hm⟩:=bindE hm
 refine t_r [2] [vB (!y6)] [kE 0 7,kr fun _ hS => us (ac:=cQ) (a7:=qU) m _ _ hy6 _ (s0im (s0im s0nil (hS.im 2 rfl)) (hS.im 1 rfl))] (t_sel [] (t_ret ?_))
 obtain rfl:=someE hm
 exact t_n [] rs1

def cL (m : Nat) (s : List ay) : Nat → Int → Option (Unit)
  | 0,_ => none
  | kk + 1,v6 =>
    cond (decide (v6 < (ln s))) (
    chk (0 ≤ v6 ∧ v6 < ln s) <|
    Option.bind (js m (gi s v6)) fun y12 =>
    cond y12 (
    none) (
    cL m s kk (w64 (v6 + 1)))) (
    some ())
def e9 (m : Nat) (s : List ay) : Option (Int) :=
  Option.bind (
  cL m s m 0) fun (z3 : Unit) =>
  some (-1)
theorem ig {g_s : Gh} (m : Nat) (s : List ay) (r : Int) (hm : e9 m s = some r) (w : World) (hL : S0 F0 [eI ak s g_s] w ∧ fpl [eI ak s g_s] = []) : RetB Tryz.prog 209 ⟨[vL g_s s,.func (.func 148) ⟨[]⟩ ⟨[]⟩]⟩ (vI r) w:=by
 rw [e9] at hm
 refine f_read hL (Tryz.call209 _) Tryz.func209 Tryz.ntmps209 fun M X w => ?_
 refine t_r [0,1] [vL g_s s,.func (.func 148) ⟨[]⟩ ⟨[]⟩] [] ?_
 obtain ⟨z3,hz,hm⟩:=bindE hm
 refine t_cut [] [] [eI ak s g_s] ?_ ?_
 ·replace hm:=hz
  refine t_r [0,1,7,8] [vL g_s s,.func (.func 148) ⟨[]⟩ ⟨[]⟩,vI (ln s),vI 0] [] (t_block ?_)
  intro _ _ H5 hS
  refine w_loop (fun kk a' w' => ∃ (v6 : Int),cL m s kk v6 = some _ ∧ Fr 19 (fS [0,1,7,8] [vL g_s s,.func (.func 148) ⟨[]⟩ ⟨[]⟩,vI (ln s),vI v6]) a' ∧ SH M X w [eI ak s g_s] w') ⟨_,0,hm,FrG.keep (ks:=[0,1,7,8]) H5 (by kernel_rfl),hS⟩ ?_
  clear hm H5 hS
  rintro kk _ _ ⟨v6,hm,H,hS⟩
  cases kk with
  | zero => exact noneE hm
  | succ kk =>
   rw [cL] at hm
   refine t_in H hS ?_
   refine t_r [0,1,7,8,9] [vL g_s s,.func (.func 148) ⟨[]⟩ ⟨[]⟩,vI (ln s),vI v6,vB (decide (v6 < (ln s)))] [] (t_seq ?_)
   refine t_im hm (fun hm => ?_) (fun hm => ?c18)
   case c18 =>
    refine t_exit ?_
    obtain rfl:=someE hm
    exact t_e []
   refine t_skip (t_seq (t_block ?_))
   refine t_r [0,1,5,7,8] [vL g_s s,.func (.func 148) ⟨[]⟩ ⟨[]⟩,vI v6,vI (ln s),vI v6] [] ?_
   obtain ⟨ho11,hm⟩:=chkE hm
   obtain ⟨y12,hy12,hm⟩:=bindE hm
   refine t_r [0,1,5,7,8,16] [vL g_s s,.func (.func 148) ⟨[]⟩ ⟨[]⟩,vI v6,vI (ln s),vI v6,vB y12] [ki 0 ho11,⟨some (.agg ⟨e4 (gi s v6) (g_s.s (v6).toNat)⟩),fun wz => V.atN (ab g_s.a) (ao g_s.a + (v6).toNat * 7) (e4 (gi s v6) (g_s.s (v6).toNat)) 0 wz,fun _ hS => ((hS.im 0 rfl).atA ho11 0 rfl)⟩,kr fun _ hS => og (cQ:=(g_s.s (v6).toNat 0)) (qU:=(g_s.s (v6).toNat 1)) m _ _ hy12 _ (s0im (s0im s0nil (eY ((hS.im 0 rfl).el ho11))) (eX ((hS.im 0 rfl).el ho11)))] ?_
   refine t_i2 hm (fun hm => ?_)
   refine t_skip ?_
   refine t_w [0,1,7,8] [vL g_s s,.func (.func 148) ⟨[]⟩ ⟨[]⟩,vI (ln s),vI (w64 (v6 + 1))] [] ?_
   exact fun _ _ H16 hS => ⟨_,Nat.lt_succ_self _,w64 (v6 + 1),hm,FrG.keep (ks:=[0,1,7,8]) H16 (by kernel_rfl),hS⟩
 ·refine t_sel [] ?_
  refine t_r [4] [vI (-1)] [] (t_ret ?_)
  obtain rfl:=someE hm
  exact t_n [] rs1

def dJ (m : Nat) (s : List ay) : Option (Bool) :=
  Option.bind (e9 m s) fun y3 =>
  some (decide (0 ≤ y3))
theorem gM {g_s : Gh} (m : Nat) (s : List ay) (r : Bool) (hm : dJ m s = some r) (w : World) (hL : S0 F0 [eI ak s g_s] w ∧ fpl [eI ak s g_s] = []) : RetB Tryz.prog 147 ⟨[vL g_s s,.func (.func 148) ⟨[]⟩ ⟨[]⟩]⟩ (vB r) w:=by
 rw [dJ] at hm
 refine f_read hL (Tryz.call147 _) Tryz.func147 Tryz.ntmps147 fun M X w => ?_
 refine t_r [0,1] [vL g_s s,.func (.func 148) ⟨[]⟩ ⟨[]⟩] [] ?_
 obtain ⟨y3,hy3,hm⟩:=bindE hm
 refine t_r [4] [vB (decide (0 ≤ y3))] [kr fun _ hS => ig (g_s:=g_s) m _ _ hy3 _ (s0im s0nil (hS.im 0 rfl))] (t_sel [] (t_ret ?_))
 obtain rfl:=someE hm
 exact t_n [] rs1

def iJ (m : Nat) (c_ : ay) : Option (Int) :=
  lt (cond (c_.aj == 1) ((ln c_.a8) == 0) false) fun x8 =>
  lt (cond (c_.aj == 2) (decide (0 < (ln c_.a8))) false) fun x11 =>
  lt (cond x11 (decide ((ln c_.a8) ≤ 64)) false) fun x12 =>
  Option.bind (cond x12 (dJ m c_.a8) (some default)) fun y13 =>
  lt (cond (!(dm c_)) true (cond (!x8) (!(cond x12 (!y13) false)) false)) fun x16 =>
  cond x16 (
  some 8) (
  some 0)
theorem lV {ac : Gh} {a7 : Gh} (m : Nat) (c_ : ay) (r : Int) (hm : iJ m c_ = some r) (w : World) (hL : S0 F0 [eI a6 c_.az.Value ac,eI ak c_.a8 a7] w ∧ fpl [eI a6 c_.az.Value ac,eI ak c_.a8 a7] = []) : RetB Tryz.prog 91 ⟨[.agg ⟨e4 c_ (gL [ac,a7])⟩]⟩ (vI r) w:=by
 rw [iJ] at hm
 refine f_read hL (Tryz.call91 _) Tryz.func91 Tryz.ntmps91 fun M X w => (t_starts ?_)
 refine t_m [] [0,1] [] [] (fun _ _ H hd => o_box (e4 c_ (gL [ac,a7])) H hd rfl rfl) fun b1 => ?_
 refine t_b 2 [1] [vP b1] [] (t_end ?_)
 refine t_r [1,3] [vP b1,vI (ln c_.a8)] [kb 0 6] ?_
 obtain ⟨x8,hx8,hm⟩:=letE hm
 refine t_r [1,3,4] [vP b1,vI (ln c_.a8),vB x8] [kb 0 0] ?_ (he:=by subst hx8; kernel_rfl)
 obtain ⟨x11,hx11,hm⟩:=letE hm
 obtain ⟨x12,hx12,hm⟩:=letE hm
 obtain ⟨y13,hy13,hm⟩:=bindE hm
 refine t_r [1,4,5] [vP b1,vB x8,vB (cond x12 (!y13) false)] [kb 0 0,kgb (x12 = true ∧ True) 0 6,kgr (x12 = true ∧ True) fun _ hS hg => gM (g_s:=a7) m _ _ (bT (hg.1) hy13) _ (s0im s0nil (hS.im 2 rfl))] ?_ (he:=by subst hx11 hx12; kernel_rfl)
 refine t_seq ?_
 obtain ⟨x16,hx16,hm⟩:=letE hm
 refine t_r [43] [vB x16] [kE 0 7,⟨some (vB (dm c_)),rB 150 [.agg ⟨e4 c_ (gL [ac,a7])⟩] (vB (dm c_)),fun _ hS => (ip (ac:=ac) (a7:=a7) c_ _ (s0im (s0im s0nil (hS.im 2 rfl)) (hS.im 1 rfl)))⟩] ?_ (he:=by subst hx16; kernel_rfl)
 refine t_sel [] ?_
 refine t_im hm (fun hm => ?c23) (fun hm => ?_)
 case c23 =>
  refine t_r [2] [vI 8] [] (t_ret ?_)
  obtain rfl:=someE hm
  exact t_n [] rs1
 refine t_skip ?_
 refine t_r [2] [vI 0] [] (t_ret ?_)
 obtain rfl:=someE hm
 exact t_n [] rs1

def mv (kind : Int) : Option (Int) :=
  cond (kind == 2) (
  none) (
  Option.bind (
  cond (kind == 19) (
  some (kind == 19)) (
  cond (kind == 21) (
  some (kind == 21)) (
  some (kind == 23)))) fun (z7 : Bool) =>
  cond z7 (
  none) (
  some 0))
theorem nY  (kind : Int) (r : Int) (hm : mv kind = some r) : Ret Tryz.prog 201 ⟨[vU kind]⟩ (vU r):=by
 rw [mv] at hm
 refine f_pure (Tryz.call201 _) Tryz.func201 Tryz.ntmps201 fun M X w => ?_
 refine t_r [0] [vU kind] [] (t_seq ?_)
 refine t_r [0,3] [vU kind,vU kind] [] (t_block ?_)
 refine t_r [0,3,4] [vU kind,vU kind,vB (kind == 2)] [] ?_
 refine t_i2 hm (fun hm => ?_)
 obtain ⟨z7,hz,hm⟩:=bindE hm
 refine t_cut [0,6] [vU kind,vB z7] [] ?_ ?_
 ·replace hm:=hz
  refine t_r [0,3,6] [vU kind,vU kind,vB (kind == 19)] [] ?_
  refine t_im hm (fun hm => ?c15) (fun hm => ?_)
  case c15 =>
   refine t_skip ?_
   obtain rfl:=someE hm
   exact t_e [0,6]
  refine t_r [0,3,6] [vU kind,vU kind,vB (kind == 21)] [] ?_
  refine t_im hm (fun hm => ?c14) (fun hm => ?_)
  case c14 =>
   refine t_skip ?_
   obtain rfl:=someE hm
   exact t_e [0,6]
  refine t_w [0,6] [vU kind,vB (kind == 23)] [] ?_
  obtain rfl:=someE hm
  exact t_e [0,6]
 ·refine t_im hm (fun hm => ?c18) (fun hm => ?_)
  case c18 =>
   intro _ _ H hS
   exact noneE hm
  refine t_skip ?_
  refine t_r [2] [vU 0] [] (t_ret ?_)
  obtain rfl:=someE hm
  exact t_n [] rs1

structure iU where
  depth : Int
  vX : Int
  bad : Bool
instance : Inhabited iU:=⟨⟨default,default,default⟩⟩
def uV : Ty iU where
  z:=3
  enc:=fun x g => [vI x.depth,vI x.vX,vB x.bad]
  inn:=fun _ _ _ _ => True
  len:=fun _ _ => rfl
  one:=fun _ _ => rfl
  kp:=fun _ _ _ => trivial
  anti:=fun _ _ => trivial
  fresh:=fun _ => trivial
def e17 (x : iU) : List Value:=uV.enc x (gL [])
def lD (m : Nat) (v_ : List ae) (fa : Int) : Nat → Int → Int → Option (Int)
  | 0,_,_ => none
  | kk + 1,v10,v11 =>
    cond (decide (v10 < (ln v_))) (
    chk (0 ≤ v10 ∧ v10 < ln v_) <|
    Option.bind (mv ((gi v_ v10).ax.aj)) fun y26 =>
    lt (cond (fa != 0) (((gi v_ v10).ax.aj) == fa) false) fun x29 =>
    lt (cond x29 true (cond (y26 == 0) (decide (0 < (ln ((gi v_ v10).a8)))) false)) fun x30 =>
    cond x30 (
    none) (
    cond (y26 == 0) (
    lD m v_ fa kk (w64 (v10 + 1)) (w64 (v11 + 1))) (
    none))) (
    some v11)
def oM (m : Nat) (v_ : List ae) (fa : Int) : Option (iU) :=
  Option.bind (
  lD m v_ fa m 0 0) fun (z7 : Int) =>
  some (iU.mk 0 z7 false)
theorem qh {af : Gh} (m : Nat) (v_ : List ae) (fa : Int) (r : iU) (hm : oM m v_ fa = some r) (w : World) (hL : S0 F0 [eI a6 v_ af] w ∧ fpl [eI a6 v_ af] = []) : RetB Tryz.prog 137 ⟨[vL af v_,vU fa]⟩ (.agg ⟨e17 r⟩) w:=by
 rw [oM] at hm
 refine f_read hL (Tryz.call137 _) Tryz.func137 Tryz.ntmps137 fun M X w => (t_starts ?_)
 refine t_m [] [0] [0,1] [vL af v_,vU fa] (fun _ _ H hd => o_alloc [vI 0,vI 0,vF] (z:=vG [vI 0,vI 0,vF]) hd (by kernel_rfl) rfl) fun b1 => (t_end (t_starts ?_))
 refine t_m [] [0,1] [0,1,4] [vL af v_,vU fa,vP b1] (fun _ _ H3 hd => o_alloc [vI 0,vI 0,vF] (z:=vG [vI 0,vI 0,vF]) hd (by kernel_rfl) rfl) fun b4 => (t_end ?_)
 obtain ⟨z7,hz,hm⟩:=bindE hm
 refine t_cut [4,5] [vP b1,vP b4] [eB b4 [vI 0,vI z7,vF],eB b1 [vI 0,vI 0,vF],eI a6 v_ af] ?_ ?_
 ·replace hm:=hz
  refine t_r [1,4,5,10,11,12] [vU fa,vP b1,vP b4,vL af v_,vI (ln v_),vI 0] [] (t_block ?_)
  intro _ _ H9 hS
  refine w_loop (fun kk a' w' => ∃ (v10 : Int) (v11 : Int),lD m v_ fa kk v10 v11 = some _ ∧ Fr 71 (fS [1,4,5,10,11,12] [vU fa,vP b1,vP b4,vL af v_,vI (ln v_),vI v10]) a' ∧ SH M X w [eB b4 [vI 0,vI v11,vF],eB b1 [vI 0,vI 0,vF],eI a6 v_ af] w') ⟨_,0,0,hm,FrG.keep (ks:=[1,4,5,10,11,12]) H9 (by kernel_rfl),hS⟩ ?_
  clear hm H9 hS
  rintro kk _ _ ⟨v10,v11,hm,H,hS⟩
  cases kk with
  | zero => exact noneE hm
  | succ kk =>
   rw [lD] at hm
   refine t_in H hS ?_
   refine t_r [1,4,5,10,11,12,13] [vU fa,vP b1,vP b4,vL af v_,vI (ln v_),vI v10,vB (decide (v10 < (ln v_)))] [] (t_seq ?_)
   refine t_im hm (fun hm => ?_) (fun hm => ?c39)
   case c39 =>
    refine t_exit ?_
    obtain rfl:=someE hm
    exact t_e [4,5]
   refine t_skip (t_seq (t_block (t_starts ?_)))
   obtain ⟨ho14,hm⟩:=chkE hm
   refine t_b 2 [1,4,5,10,11,12,15] [vU fa,vP b1,vP b4,vL af v_,vI (ln v_),vI v10,.agg ⟨e0 (gi v_ v10) (af.s (v10).toNat)⟩] [ki 2 ho14,⟨some (.agg ⟨e0 (gi v_ v10) (af.s (v10).toNat)⟩),fun wz => V.atN (ab af.a) (ao af.a + (v10).toNat * 6) (e0 (gi v_ v10) (af.s (v10).toNat)) 0 wz,fun _ hS => ((hS.im 2 rfl).atA ho14 0 rfl)⟩] ?_
   refine t_m [] [0,1,2] [1,4,5,10,11,12,15] [vU fa,vP b1,vP b4,vL af v_,vI (ln v_),vI v10,.agg ⟨e0 (gi v_ v10) (af.s (v10).toNat)⟩] (fun _ _ H16 hd => o_alloc [vU 0,vN,vI 0,vN,vF,vO] (z:=vG [vU 0,vN,vI 0,vN,vF,vO]) hd (by kernel_rfl) rfl) fun b17 => ?_
   refine t_m0 [0] [1,2,3] [1,4,5,7,10,11,12] [vU fa,vP b1,vP b4,vP b17,vL af v_,vI (ln v_),vI v10] (fun _ _ H19 hd => o_store (e0 (gi v_ v10) (af.s (v10).toNat)) H19 hd rfl rfl (by kernel_rfl) rfl rfl rfl) (t_end (t_starts ?_))
   refine t_b 4 [1,4,5,7,10,11,12,18,19] [vU fa,vP b1,vP b4,vP b17,vL af v_,vI (ln v_),vI v10,vI (w64 (v11 + 1)),vA b4 1] [kb 1 1] ?_
   refine t_m0 [1] [0,2,3] [1,4,5,7,10,11,12] [vU fa,vP b1,vP b4,vP b17,vL af v_,vI (ln v_),vI v10] (fun _ _ H23 hd => o_store [vI 0,vI (w64 (v11 + 1)),vF] H23 hd rfl rfl (by kernel_rfl) rfl rfl rfl) (t_end ?_)
   obtain ⟨y26,hy26,hm⟩:=bindE hm
   refine t_r [1,4,5,7,8,10,11,12] [vU fa,vP b1,vP b4,vP b17,vU y26,vL af v_,vI (ln v_),vI v10] [kb 1 0,kc (nY _ _ hy26)] (t_seq ?_)
   obtain ⟨x29,hx29,hm⟩:=letE hm
   obtain ⟨x30,hx30,hm⟩:=letE hm
   refine t_r [1,4,5,7,8,10,11,12,42] [vU fa,vP b1,vP b4,vP b17,vU y26,vL af v_,vI (ln v_),vI v10,vB x30] [kgb ((fa != 0) = true ∧ True) 1 0,kgb ((y26 == 0) = true ∧ x29 = false ∧ True) 1 5] ?_ (he:=by subst hx29 hx30; kernel_rfl)
   refine t_i2 hm (fun hm => ?_)
   refine t_skip (t_seq ?_)
   refine t_r [1,4,5,7,8,10,11,12,45] [vU fa,vP b1,vP b4,vP b17,vU y26,vL af v_,vI (ln v_),vI v10,vB (y26 == 0)] [] ?_
   refine t_im hm (fun hm => ?_) (fun hm => ?c37)
   case c37 =>
    refine t_skip ?_
    intro _ _ H34 hS
    exact noneE hm
   refine t_exit ?_
   refine t_w [1,4,5,10,11,12] [vU fa,vP b1,vP b4,vL af v_,vI (ln v_),vI (w64 (v10 + 1))] [] (t_sel [0,2,3] ?_)
   exact fun _ _ H36 hS => ⟨_,Nat.lt_succ_self _,w64 (v10 + 1),w64 (v11 + 1),hm,FrG.keep (ks:=[1,4,5,10,11,12]) H36 (by kernel_rfl),hS⟩
 ·refine t_sel [0,1] (t_starts ?_)
  refine t_b 1 [4,70] [vP b1,vG [vI 0,vI z7,vF]] [kE 0 3] ?_
  refine t_m0 [1] [0] [4] [vP b1] (fun _ _ H42 hd => o_store [vI 0,vI z7,vF] H42 hd rfl rfl (by kernel_rfl) rfl rfl rfl) (t_end (t_sel [0] (t_ret ?_)))
  obtain rfl:=someE hm
  exact t_n [] (rsa 0 Tryz.underlying227)

def k8 (m : Nat) (v_ : List ae) : Option (Int) :=
  Option.bind (oM m v_ 0) fun y3 =>
  cond (decide (16 < y3.depth)) (
  none) (
  cond (decide (1500 < y3.vX)) (
  none) (
  cond y3.bad (
  none) (
  some 0)))
theorem kf {af : Gh} (m : Nat) (v_ : List ae) (r : Int) (hm : k8 m v_ = some r) (w : World) (hL : S0 F0 [eI a6 v_ af] w ∧ fpl [eI a6 v_ af] = []) : RetB Tryz.prog 95 ⟨[vL af v_]⟩ (vI r) w:=by
 rw [k8] at hm
 refine f_read hL (Tryz.call95 _) Tryz.func95 Tryz.ntmps95 fun M X w => ?_
 refine t_r [0] [vL af v_] [] (t_seq (t_starts ?_))
 obtain ⟨y3,hy3,hm⟩:=bindE hm
 refine t_b 2 [5] [.agg ⟨e17 y3⟩] [kr fun _ hS => qh (af:=af) m _ _ _ hy3 _ (s0im s0nil (hS.im 0 rfl))] ?_
 refine t_m [] [0] [5] [.agg ⟨e17 y3⟩] (fun _ _ H5 hd => o_alloc [vI 0,vI 0,vF] (z:=vG [vI 0,vI 0,vF]) hd (by kernel_rfl) rfl) fun b6 => ?_
 refine t_m0 [0] [1] [3] [vP b6] (fun _ _ H8 hd => o_store (e17 y3) H8 hd rfl rfl (by kernel_rfl) rfl rfl rfl) (t_end (t_sel [0] (t_block ?_)))
 refine t_r [3,6] [vP b6,vB (decide (16 < y3.depth))] [kb 0 0] ?_
 refine t_i2 hm (fun hm => ?_)
 refine t_r [3,10] [vP b6,vB (decide (1500 < y3.vX))] [kb 0 1] ?_
 refine t_i2 hm (fun hm => ?_)
 refine t_r [14] [vB y3.bad] [kb 0 2] (t_sel [] ?_)
 refine t_i2 hm (fun hm => ?_)
 refine t_skip ?_
 refine t_r [2] [vI 0] [] (t_ret ?_)
 obtain rfl:=someE hm
 exact t_n [] rs1

def nz (m : Nat) (v_ : List ae) : Option (Int × Int) :=
  Option.bind (k8 m v_) fun y3 =>
  cond (y3 != 0) (
  none) (
  Option.bind (oM m v_ 0) fun y8 =>
  some (y8.depth,0))
theorem p9 {af : Gh} (m : Nat) (v_ : List ae) (r : Int × Int) (hm : nz m v_ = some r) (w : World) (hL : S0 F0 [eI a6 v_ af] w ∧ fpl [eI a6 v_ af] = []) : RetB Tryz.prog 88 ⟨[vL af v_]⟩ (vW [vI r.1,vI r.2]) w:=by
 rw [nz] at hm
 refine f_read hL (Tryz.call88 _) Tryz.func88 Tryz.ntmps88 fun M X w => ?_
 refine t_r [0] [vL af v_] [] (t_seq ?_)
 obtain ⟨y3,hy3,hm⟩:=bindE hm
 refine t_r [0,4] [vL af v_,vI y3] [kr fun _ hS => kf (af:=af) m _ _ hy3 _ (s0im s0nil (hS.im 0 rfl))] ?_
 refine t_r [0,4,8] [vL af v_,vI y3,vB (y3 != 0)] [] ?_
 refine t_i2 hm (fun hm => ?_)
 refine t_skip ?_
 obtain ⟨y8,hy8,hm⟩:=bindE hm
 refine t_r [2,3] [vI y8.depth,vI 0] [kr fun _ hS => qh (af:=af) m _ _ _ hy8 _ (s0im s0nil (hS.im 0 rfl))] (t_sel [] (t_ret ?_))
 obtain rfl:=someE hm
 exact t_n [] rs2

def uT (gf : ay → Option (Int)) : Prop:=∀ (ac : Gh) (a7 : Gh) (M : Av) (c_ : ay) (r : Int),gf c_ = some r → ∀ w,S0 M [eI a6 c_.az.Value ac,eI ak c_.a8 a7] w → Calls Tryz.prog 92 ⟨[.agg ⟨e4 c_ (gL [ac,a7])⟩]⟩ w (fun e w' => ∃ v,e = .returned v ∧ v = vI r ∧ SH M (fpl [eI a6 c_.az.Value ac,eI ak c_.a8 a7]) w [] w')
def kA (m : Nat) (c_ : ay) (o4 : ay → Option (Int)) : Nat → Int → Int → Option (Int)
  | 0,_,_ => none
  | kk + 1,v24,v25 =>
    cond (decide (v25 < (ln c_.a8))) (
    chk (0 ≤ v25 ∧ v25 < ln c_.a8) <|
    Option.bind (o4 (gi c_.a8 v25)) fun y36 =>
    Option.bind (
    lt (cond (((gi c_.a8 v25).aj) != 7) (((gi c_.a8 v25).aj) != 8) false) fun x40 =>
    cond x40 (
    some (w64 (y36 + 1))) (
    some y36)) fun (z39 : Int) =>
    kA m c_ o4 kk (if v24 < z39 then z39 else v24) (w64 (v25 + 1))) (
    some v24)
def jq (m : Nat) : Nat → ay → Option (Int)
  | 0,_ => none
  | k + 1,c_ =>
    cond (c_.aj == 7) (
    Option.bind (nz m c_.az.Value) fun y10 =>
    some (w64 (y10.1 + 1))) (
    cond (c_.aj == 8) (
    some 1) (
    Option.bind (
    kA m c_ (jq m k) m 0 0) fun (z21 : Int) =>
    some z21))
theorem ub (m : Nat) : ∀ (k : Nat),uT (jq m  k):=by
 intro k
 induction k with
 | zero => intro ac a7 M c_ r hm; exact noneE hm
 | succ k ih =>
  intro ac a7 M c_ r hm w hS
  rw [jq] at hm
  have hS0 : SH M (fpl [eI a6 c_.az.Value ac,eI ak c_.a8 a7]) w [eI a6 c_.az.Value ac,eI ak c_.a8 a7] w:=hS
  generalize hX : fpl [eI a6 c_.az.Value ac,eI ak c_.a8 a7] = X at hS0 ⊢
  clear hS hX
  have hS:=hS0
  clear hS0
  refine calls_entryP Tryz.func92 rfl Tryz.ntmps92 rfl fun _ H => ?_
  refine t_in H hS (t_starts ?_)
  refine t_m [] [0,1] [] [] (fun _ _ H hd => o_box (e4 c_ (gL [ac,a7])) H hd rfl rfl) fun b1 => ?_
  refine t_b 2 [1] [vP b1] [] (t_end (t_seq ?_))
  refine t_r [1,10] [vP b1,vU c_.aj] [kb 0 0] (t_block ?_)
  refine t_r [1,10,11] [vP b1,vU c_.aj,vB (c_.aj == 7)] [] ?_
  refine t_im hm (fun hm => ?c57) (fun hm => ?_)
  case c57 =>
   obtain ⟨y10,hy10,hm⟩:=bindE hm
   refine t_r [3] [vI y10.1] [kb 0 4,kr fun _ hS => p9 (af:=ac) m _ _ hy10 _ (s0im s0nil (hS.im 1 rfl))] (t_sel [] ?_)
   refine t_r [2] [vI (w64 (y10.1 + 1))] [] (t_ret ?_)
   obtain rfl:=someE hm
   exact t_n [] rs1
  refine t_r [1,22] [vP b1,vB (c_.aj == 8)] [] ?_
  refine t_im hm (fun hm => ?c56) (fun hm => ?_)
  case c56 =>
   refine t_r [2] [vI 1] [] (t_sel [] (t_ret ?_))
   obtain rfl:=someE hm
   exact t_n [] rs1
  refine t_skip ?_
  refine t_r [1,5] [vP b1,vI 0] [] ?_
  obtain ⟨z21,hz,hm⟩:=bindE hm
  refine t_cut [5] [vI z21] [eB b1 (e4 c_ (gL [ac,a7])),eI a6 c_.az.Value ac,eI ak c_.a8 a7] ?_ ?_
  ·replace hm:=hz
   refine t_r [5,25,26,27] [vI 0,vL a7 c_.a8,vI (ln c_.a8),vI 0] [kb 0 6] (t_block ?_)
   intro _ _ H23 hS
   refine w_loop (fun kk a' w' => ∃ (v24 : Int) (v25 : Int),kA m c_ (jq m k) kk v24 v25 = some _ ∧ Fr 48 (fS [25,26,5,27] [vL a7 c_.a8,vI (ln c_.a8),vI v24,vI v25]) a' ∧ SH M X w [eB b1 (e4 c_ (gL [ac,a7])),eI a6 c_.az.Value ac,eI ak c_.a8 a7] w') ⟨_,0,0,hm,FrG.keep (ks:=[25,26,5,27]) H23 (by kernel_rfl),hS⟩ ?_
   clear hm H23 hS
   rintro kk _ _ ⟨v24,v25,hm,H,hS⟩
   cases kk with
   | zero => exact noneE hm
   | succ kk =>
    rw [kA] at hm
    refine t_in H hS ?_
    refine t_r [5,25,26,27,28] [vI v24,vL a7 c_.a8,vI (ln c_.a8),vI v25,vB (decide (v25 < (ln c_.a8)))] [] (t_seq ?_)
    refine t_im hm (fun hm => ?_) (fun hm => ?c51)
    case c51 =>
     refine t_exit ?_
     obtain rfl:=someE hm
     exact t_e [5]
    refine t_skip (t_seq (t_block (t_starts ?_)))
    obtain ⟨ho28,hm⟩:=chkE hm
    refine t_b 2 [5,25,26,27,30] [vI v24,vL a7 c_.a8,vI (ln c_.a8),vI v25,.agg ⟨e4 (gi c_.a8 v25) (a7.s (v25).toNat)⟩] [ki 2 ho28,⟨some (.agg ⟨e4 (gi c_.a8 v25) (a7.s (v25).toNat)⟩),fun wz => V.atN (ab a7.a) (ao a7.a + (v25).toNat * 7) (e4 (gi c_.a8 v25) (a7.s (v25).toNat)) 0 wz,fun _ hS => ((hS.im 2 rfl).atA ho28 0 rfl)⟩] ?_
    refine t_m [] [0,1,2] [5,25,26,27,30] [vI v24,vL a7 c_.a8,vI (ln c_.a8),vI v25,.agg ⟨e4 (gi c_.a8 v25) (a7.s (v25).toNat)⟩] (fun _ _ H30 hd => o_alloc [vU 0,vN,vI 0,vN,vO,vF,vO] (z:=vG [vU 0,vN,vI 0,vN,vO,vF,vO]) hd (by kernel_rfl) rfl) fun b31 => ?_
    refine t_m0 [0] [1,2,3] [5,7,25,26,27] [vI v24,vP b31,vL a7 c_.a8,vI (ln c_.a8),vI v25] (fun _ _ H33 hd => o_store (e4 (gi c_.a8 v25) (a7.s (v25).toNat)) H33 hd rfl rfl (by kernel_rfl) rfl rfl rfl) (t_end ?_)
    obtain ⟨y36,hy36,hm⟩:=bindE hm
    refine t_r [5,7,8,25,26,27] [vI v24,vP b31,vI y36,vL a7 c_.a8,vI (ln c_.a8),vI v25] [kE 0 7,kr fun _ hS => retB_of (s0im (s0im s0nil (eY ((hS.im 3 rfl).el ho28))) (eX ((hS.im 3 rfl).el ho28))) (Tryz.call92 _) (fun w' h' => ih ((a7.s (v25).toNat 0)) ((a7.s (v25).toNat 1)) F0 _ _ hy36 w' h')] ?_
    obtain ⟨z39,hz,hm⟩:=bindE hm
    refine t_cut [5,25,26,27,8] [vI v24,vL a7 c_.a8,vI (ln c_.a8),vI v25,vI z39] [eB b31 (e4 (gi c_.a8 v25) (a7.s (v25).toNat)),eB b1 (e4 c_ (gL [ac,a7])),eI a6 c_.az.Value ac,eI ak c_.a8 a7] ?_ ?_
    ·replace hm:=hz
     obtain ⟨x40,hx40,hm⟩:=letE hm
     refine t_r [5,8,25,26,27,40] [vI v24,vI y36,vL a7 c_.a8,vI (ln c_.a8),vI v25,vB x40] [kb 0 0,kgb ((((gi c_.a8 v25).aj) != 7) = true ∧ True) 0 0] ?_ (he:=by subst hx40; kernel_rfl)
     refine t_im hm (fun hm => ?_) (fun hm => ?c45)
     case c45 =>
      refine t_skip ?_
      obtain rfl:=someE hm
      exact t_e [5,25,26,27,8]
     refine t_w [5,8,25,26,27] [vI v24,vI (w64 (y36 + 1)),vL a7 c_.a8,vI (ln c_.a8),vI v25] [] ?_
     obtain rfl:=someE hm
     exact t_e [5,25,26,27,8]
    ·refine t_sel [1,2,3] ?_
     refine t_w [5,25,26,27] [vI (if v24 < z39 then z39 else v24),vL a7 c_.a8,vI (ln c_.a8),vI v25] [] ?_
     refine t_w [5,25,26,27] [vI (if v24 < z39 then z39 else v24),vL a7 c_.a8,vI (ln c_.a8),vI (w64 (v25 + 1))] [] ?_
     exact fun _ _ H49 hS => ⟨_,Nat.lt_succ_self _,if v24 < z39 then z39 else v24,w64 (v25 + 1),hm,FrG.keep (ks:=[25,26,5,27]) H49 (by kernel_rfl),hS⟩
  ·refine t_sel [] ?_
   refine t_r [2] [vI z21] [] (t_ret ?_)
   obtain rfl:=someE hm
   exact t_n [] rs1
def s0 (m : Nat) (c_ : ay) : Option (Int):=jq m  m c_
theorem sX {ac : Gh} {a7 : Gh} (m : Nat) (c_ : ay) (r : Int) (hm : s0 m c_ = some r) (w : World) (hL : S0 F0 [eI a6 c_.az.Value ac,eI ak c_.a8 a7] w ∧ fpl [eI a6 c_.az.Value ac,eI ak c_.a8 a7] = []) : RetB Tryz.prog 92 ⟨[.agg ⟨e4 c_ (gL [ac,a7])⟩]⟩ (vI r) w:=retB_of hL (Tryz.call92 _) (fun w' h => ub m   m ac a7 F0 c_ r hm w' h)

def lv (m : Nat) (v_ : List ae) : Nat → (List aR) → Int → Option (List aR)
  | 0,_,_ => none
  | kk + 1,v6,v8 =>
    cond (decide (v8 < (ln v_))) (
    chk (0 ≤ v8 ∧ v8 < ln v_) <|
    chk (ln v6 + ln ([(gi v_ v8).ax] : List aR) ≤ 137438953472) <|
    lt (v6 ++ ([(gi v_ v8).ax] : List aR)) fun q26 =>
    Option.bind (mv ((gi v_ v8).ax.aj)) fun y32 =>
    cond (y32 != 0) (
    none) (
    lv m v_ kk q26 (w64 (v8 + 1)))) (
    some v6)
def rj (m : Nat) (l_ : List aR) (v_ : List ae) : Option (List aR) :=
  Option.bind (
  lv m v_ m l_ 0) fun (z3 : List aR) =>
  some z3
theorem uO {aa : Gh} {af : Gh} (m : Nat) (l_ : List aR) (v_ : List ae) (r : List aR) (hm : rj m l_ v_ = some r) : DoesM Tryz.prog 202 ⟨[vL aa l_,vL af v_]⟩ [eO 135 bz l_ aa,eI a6 v_ af] (fun (aA : Gh) => vL aA r) (fun aA => [eO 135 bz r aA]):=by
 rw [rj] at hm
 refine f_mem (Tryz.call202 _) Tryz.func202 Tryz.ntmps202 fun M X w => ?_
 refine t_r [0,1] [vL aa l_,vL af v_] [] ?_
 obtain ⟨z3,hz,hm⟩:=bindE hm
 refine t_cutg [0] (fun (g42 : Gh) => [vL g42 z3]) (fun g42 => [eO 135 bz z3 g42,eI a6 v_ af]) ?_ ?_
 ·replace hm:=hz
  refine t_r [0,8,9,10] [vL aa l_,vL af v_,vI (ln v_),vI 0] [] (t_block ?_)
  intro _ _ H5 hS
  refine w_loop (fun kk a' w' => ∃ (v6 : List aR) (v8 : Int) (g7 : Gh),lv m v_ kk v6 v8 = some _ ∧ Fr 35 (fS [8,9,0,10] [vL af v_,vI (ln v_),vL g7 v6,vI v8]) a' ∧ SH M X w [eO 135 bz v6 g7,eI a6 v_ af] w') ⟨_,l_,0,aa,hm,FrG.keep (ks:=[8,9,0,10]) H5 (by kernel_rfl),hS⟩ ?_
  clear hm H5 hS
  rintro kk _ _ ⟨v6,v8,g7,hm,H,hS⟩
  cases kk with
  | zero => exact noneE hm
  | succ kk =>
   rw [lv] at hm
   refine t_in H hS ?_
   refine t_r [0,8,9,10,11] [vL g7 v6,vL af v_,vI (ln v_),vI v8,vB (decide (v8 < (ln v_)))] [] (t_seq ?_)
   refine t_im hm (fun hm => ?_) (fun hm => ?c40)
   case c40 =>
    refine t_exit ?_
    obtain rfl:=someE hm
    exact t_eg g7 [0]
   refine t_skip (t_seq (t_block (t_starts ?_)))
   obtain ⟨ho11,hm⟩:=chkE hm
   refine t_b 2 [0,8,9,10,13] [vL g7 v6,vL af v_,vI (ln v_),vI v8,.agg ⟨e0 (gi v_ v8) (af.s (v8).toNat)⟩] [ki 1 ho11,⟨some (.agg ⟨e0 (gi v_ v8) (af.s (v8).toNat)⟩),fun wz => V.atN (ab af.a) (ao af.a + (v8).toNat * 6) (e0 (gi v_ v8) (af.s (v8).toNat)) 0 wz,fun _ hS => ((hS.im 1 rfl).atA ho11 0 rfl)⟩] ?_
   refine t_m [] [0,1] [0,8,9,10,13] [vL g7 v6,vL af v_,vI (ln v_),vI v8,.agg ⟨e0 (gi v_ v8) (af.s (v8).toNat)⟩] (fun _ _ H13 hd => o_alloc [vU 0,vN,vI 0,vN,vF,vO] (z:=vG [vU 0,vN,vI 0,vN,vF,vO]) hd (by kernel_rfl) rfl) fun b14 => ?_
   refine t_m0 [0] [1,2] [0,6,8,9,10] [vL g7 v6,vP b14,vL af v_,vI (ln v_),vI v8] (fun _ _ H16 hd => o_store (e0 (gi v_ v8) (af.s (v8).toNat)) H16 hd rfl rfl (by kernel_rfl) rfl rfl rfl) (t_end (t_starts ?_))
   refine t_b 3 [6,8,9,10,14,16] [vP b14,vL af v_,vI (ln v_),vI v8,vL g7 v6,.agg ⟨e6 ((gi v_ v8).ax)⟩] [kE 0 5] ?_
   refine t_m [] [0,1,2] [6,8,9,10,14] [vP b14,vL af v_,vI (ln v_),vI v8,vL g7 v6] (fun _ _ H20 hd => o_li (T:=bz) (E:=135) (zv:=vG [vU 0,vN,vI 0,vN,vF]) (e6 ((gi v_ v8).ax)) ([(gi v_ v8).ax] : List aR) [gL []] H20 hd rfl (InnL.cons trivial InnL.nil)) fun g21 => ?_
   obtain ⟨ho25,hm⟩:=chkE hm
   obtain ⟨q26,hq26,hm⟩:=letE hm
   refine t_m [2,0] [1,3] [6,8,9,10] [vP b14,vL af v_,vI (ln v_),vI v8] (fun _ _ H24 hd => o_app2 (T:=bz) (zv:=vG [vU 0,vN,vI 0,vN,vF]) (g1:=g7) (g2:=g21) (l1:=v6) (l2:=([(gi v_ v8).ax] : List aR)) q26 hq26.symm H24 hd rfl rfl rfl rfl rfl rfl rfl (by kernel_rfl) (by kernel_rfl) rfl rfl ho25) fun g29 => ?_
   refine t_b 6 [0,6,8,9,10] [vL g29 q26,vP b14,vL af v_,vI (ln v_),vI v8] [] (t_end (t_sel [0,2,3] ?_))
   obtain ⟨y32,hy32,hm⟩:=bindE hm
   refine t_r [0,6,7,8,9,10] [vL g29 q26,vP b14,vU y32,vL af v_,vI (ln v_),vI v8] [kb 1 0,kc (nY _ _ hy32)] ?_
   refine t_r [0,6,7,8,9,10,24] [vL g29 q26,vP b14,vU y32,vL af v_,vI (ln v_),vI v8,vB (y32 != 0)] [] ?_
   refine t_i2 hm (fun hm => ?_)
   refine t_skip ?_
   refine t_w [0,8,9,10] [vL g29 q26,vL af v_,vI (ln v_),vI (w64 (v8 + 1))] [] (t_sel [0,2] ?_)
   exact fun _ _ H38 hS => ⟨_,Nat.lt_succ_self _,q26,w64 (v8 + 1),g29,hm,FrG.keep (ks:=[8,9,0,10]) H38 (by kernel_rfl),hS⟩
 ·intro g42
  refine t_sel [0] ?_
  refine t_r [4] [vL g42 z3] [] (t_ret ?_)
  obtain rfl:=someE hm
  exact t_g g42 [0] rs1

def rf (m : Nat) (v_ : List ae) : Option ((List aR) × Int) :=
  Option.bind (k8 m v_) fun y3 =>
  cond (y3 != 0) (
  none) (
  Option.bind (rj m [] v_) fun y11 =>
  some (y11,0))
theorem uz {af : Gh} (m : Nat) (v_ : List ae) (r : (List aR) × Int) (hm : rf m v_ = some r) : DoesM Tryz.prog 138 ⟨[vL af v_]⟩ [eI a6 v_ af] (fun (aA : Gh) => vW [vL aA r.1,vI r.2]) (fun aA => [eO 135 bz r.1 aA]):=by
 rw [rf] at hm
 refine f_mem (Tryz.call138 _) Tryz.func138 Tryz.ntmps138 fun M X w => ?_
 refine t_r [0] [vL af v_] [] (t_seq ?_)
 obtain ⟨y3,hy3,hm⟩:=bindE hm
 refine t_r [0,4] [vL af v_,vI y3] [kr fun _ hS => kf (af:=af) m _ _ hy3 _ (s0im s0nil (hS.im 0 rfl))] ?_
 refine t_r [0,4,8] [vL af v_,vI y3,vB (y3 != 0)] [] ?_
 refine t_i2 hm (fun hm => ?_)
 refine t_skip (t_starts ?_)
 refine t_b 1 [10] [vL af v_] [] ?_
 refine t_nil 135 bz ?_
 obtain ⟨y11,hy11,hm⟩:=bindE hm
 refine t_c [0,1] [1] [] [] (uO (aa:=Gh.nil) (af:=af) m _ _ _ hy11) fun g12 => ?_
 refine t_b 4 [2,3] [vL g12 y11,vI 0] [] (t_end (t_sel [0] (t_ret ?_)))
 obtain rfl:=someE hm
 exact t_g g12 [0] rs2

def gK (s : Str) (aD : Str) : Option (Bool) :=
  chk ((decide ((ln aD) ≤ (ln s))) = true → 0 ≤ (ln aD) ∧ (ln aD) ≤ ln s) <|
  lt (cond (decide ((ln aD) ≤ (ln s))) ((sub s 0 (ln aD)) == aD) false) fun x4 =>
  some x4
theorem mJ  (s : Str) (aD : Str) (r : Bool) (hm : gK s aD = some r) : Ret Tryz.prog 208 ⟨[vS s,vS aD]⟩ (vB r):=by
 rw [gK] at hm
 refine f_pure (Tryz.call208 _) Tryz.func208 Tryz.ntmps208 fun M X w => ?_
 refine t_r [0,1] [vS s,vS aD] [] ?_
 obtain ⟨ho3,hm⟩:=chkE hm
 obtain ⟨x4,hx4,hm⟩:=letE hm
 refine t_r [4] [vB x4] [kgh ((decide ((ln aD) ≤ (ln s))) = true ∧ True) fun hg => (ho3 hg.1)] ?_ (he:=by subst hx4; kernel_rfl)
 refine t_ret ?_
 obtain rfl:=someE hm
 exact t_n [] rs1

def fF (s : Str) (aD : Str) : Option (Bool) :=
  Option.bind (gK s aD) fun y3 =>
  some y3
theorem i6  (s : Str) (aD : Str) (r : Bool) (hm : fF s aD = some r) : Ret Tryz.prog 146 ⟨[vS s,vS aD]⟩ (vB r):=by
 rw [fF] at hm
 refine f_pure (Tryz.call146 _) Tryz.func146 Tryz.ntmps146 fun M X w => ?_
 refine t_r [0,1] [vS s,vS aD] [] ?_
 obtain ⟨y3,hy3,hm⟩:=bindE hm
 refine t_r [4] [vB y3] [kc (mJ _ _ _ hy3)] (t_ret ?_)
 obtain rfl:=someE hm
 exact t_n [] rs1

def pp (m : Nat) (s : Str) : Option (Bool) :=
  lt (cond (s == []) true (decide (64 < (ln s)))) fun x3 =>
  lt (cond x3 true (decide (0 ≤ (strings_IndexByte s 0)))) fun x4 =>
  cond x4 (
  none) (
  Option.bind (fF s [45,45]) fun y7 =>
  cond y7 (
  some (!(s == [45,45]))) (
  Option.bind (ib m s) fun y12 =>
  some (s == y12)))
theorem tJ  (m : Nat) (s : Str) (r : Bool) (hm : pp m s = some r) : Ret Tryz.prog 139 ⟨[vS s]⟩ (vB r):=by
 rw [pp] at hm
 refine f_pure (Tryz.call139 _) Tryz.func139 Tryz.ntmps139 fun M X w => ?_
 refine t_r [0] [vS s] [] (t_seq ?_)
 obtain ⟨x3,hx3,hm⟩:=letE hm
 obtain ⟨x4,hx4,hm⟩:=letE hm
 refine t_r [0,14] [vS s,vB x4] [kgc (x3 = false ∧ True) fun hg => (eV s 0)] ?_ (he:=by subst hx3 hx4; kernel_rfl)
 refine t_i2 hm (fun hm => ?_)
 refine t_skip (t_seq ?_)
 obtain ⟨y7,hy7,hm⟩:=bindE hm
 refine t_r [0,16] [vS s,vB y7] [kc (i6 _ _ _ hy7)] ?_
 refine t_im hm (fun hm => ?c15) (fun hm => ?_)
 case c15 =>
  refine t_r [2] [vB (!(s == [45,45]))] [] (t_ret ?_)
  obtain rfl:=someE hm
  exact t_n [] rs1
 refine t_skip ?_
 obtain ⟨y12,hy12,hm⟩:=bindE hm
 refine t_r [2] [vB (s == y12)] [kc (h7 m _ _ hy12)] (t_ret ?_)
 obtain rfl:=someE hm
 exact t_n [] rs1

def rb (t_ : aR) : Option (Bool) :=
  chk (ln t_.ei + ln t_.Unit ≤ 9223372036854775807) <|
  lt ((strings_IndexByte (t_.ei ++ t_.Unit) 0)) fun x9 =>
  Option.bind (
  Option.bind (
  cond (t_.aj == 1) (
  some (t_.aj == 1)) (
  cond (t_.aj == 2) (
  some (t_.aj == 2)) (
  some (t_.aj == 3)))) fun (z15 : Bool) =>
  cond z15 (
  lt (cond (decide (x9 < 0)) (!(t_.ei == [])) false) fun x24 =>
  some (true,false,false,false,x24)) (
  cond (t_.aj == 4) (
  none) (
  Option.bind (
  cond (t_.aj == 5) (
  some (t_.aj == 5)) (
  some (t_.aj == 7))) fun (z29 : Bool) =>
  cond z29 (
  none) (
  cond (t_.aj == 9) (
  none) (
  Option.bind (
  cond (t_.aj == 10) (
  some (t_.aj == 10)) (
  cond (t_.aj == 11) (
  some (t_.aj == 11)) (
  some (t_.aj == 12)))) fun (z37 : Bool) =>
  cond z37 (
  lt (cond (decide (x9 < 0)) (decide ((-1000000000000) ≤ t_.Num)) false) fun x48 =>
  lt (cond x48 (decide (t_.Num ≤ 1000000000000)) false) fun x49 =>
  lt (cond x49 (cond (!t_.l3) true ((Int.tmod t_.Num 1000) == 0)) false) fun x50 =>
  lt (cond x50 (cond (!(t_.aj == 12)) true (!(t_.Unit == []))) false) fun x51 =>
  some (false,t_.aj == 12,true,t_.aj != 11,x51)) (
  none)))))) fun (z12 : Bool × Bool × Bool × Bool × Bool) =>
  lt (cond z12.2.2.2.2 (cond z12.1 true (t_.ei == [])) false) fun x62 =>
  lt (cond x62 (cond z12.2.1 true (t_.Unit == [])) false) fun x63 =>
  lt (cond x63 (cond z12.2.2.1 true (t_.Num == 0)) false) fun x64 =>
  lt (cond x64 (cond z12.2.2.2.1 true (!t_.l3)) false) fun x65 =>
  some x65
theorem uj  (t_ : aR) (r : Bool) (hm : rb t_ = some r) : Ret Tryz.prog 204 ⟨[.agg ⟨e6 t_⟩]⟩ (vB r):=by
 rw [rb] at hm
 refine f_pure (Tryz.call204 _) Tryz.func204 Tryz.ntmps204 fun M X w => (t_starts ?_)
 refine t_m [] [] [] [] (fun _ _ H hd => o_box (e6 t_) H hd rfl rfl) fun b1 => ?_
 refine t_b 2 [1] [vP b1] [] (t_end ?_)
 refine t_r [1,3,4,5,6] [vP b1,vF,vF,vF,vF] [] ?_
 obtain ⟨ho8,hm⟩:=chkE hm
 obtain ⟨x9,hx9,hm⟩:=letE hm
 refine t_r [1,3,4,5,6,7] [vP b1,vF,vF,vF,vF,vB (decide (x9 < 0))] [kb 0 1,kb 0 3,kh ho8,kc (eV (t_.ei ++ t_.Unit) 0)] ?_ (he:=by subst hx9; kernel_rfl)
 obtain ⟨z12,hz,hm⟩:=bindE hm
 refine t_cut [1,3,4,5,6,7] [vP b1,vB z12.1,vB z12.2.1,vB z12.2.2.1,vB z12.2.2.2.1,vB z12.2.2.2.2] [eB b1 (e6 t_)] ?_ ?_
 ·replace hm:=hz
  refine t_r [1,3,4,5,6,7,16] [vP b1,vF,vF,vF,vF,vB (decide (x9 < 0)),vU t_.aj] [kb 0 0] (t_block ?_)
  obtain ⟨z15,hz,hm⟩:=bindE hm
  refine t_cut [1,3,4,5,6,7,16,25] [vP b1,vF,vF,vF,vF,vB (decide (x9 < 0)),vU t_.aj,vB z15] [eB b1 (e6 t_)] ?_ ?_
  ·replace hm:=hz
   refine t_r [1,3,4,5,6,7,16,25] [vP b1,vF,vF,vF,vF,vB (decide (x9 < 0)),vU t_.aj,vB (t_.aj == 1)] [] ?_
   refine t_im hm (fun hm => ?c23) (fun hm => ?_)
   case c23 =>
    refine t_skip ?_
    obtain rfl:=someE hm
    exact t_e [1,3,4,5,6,7,16,25]
   refine t_r [1,3,4,5,6,7,16,25] [vP b1,vF,vF,vF,vF,vB (decide (x9 < 0)),vU t_.aj,vB (t_.aj == 2)] [] ?_
   refine t_im hm (fun hm => ?c22) (fun hm => ?_)
   case c22 =>
    refine t_skip ?_
    obtain rfl:=someE hm
    exact t_e [1,3,4,5,6,7,16,25]
   refine t_w [1,3,4,5,6,7,16,25] [vP b1,vF,vF,vF,vF,vB (decide (x9 < 0)),vU t_.aj,vB (t_.aj == 3)] [] ?_
   obtain rfl:=someE hm
   exact t_e [1,3,4,5,6,7,16,25]
  ·refine t_if (fun hc => ?c60) (fun hc => ?_)
   case c60 =>
    replace hm:=bT hc hm
    obtain ⟨x24,hx24,hm⟩:=letE hm
    refine t_dw [1,3,4,5,6,7] [vP b1,vT,vF,vF,vF,vB x24] [kgb ((decide (x9 < 0)) = true ∧ True) 0 1] ?_ (he:=by subst hx24; kernel_rfl)
    obtain rfl:=someE hm
    exact t_e [1,3,4,5,6,7]
   replace hm:=bF hc hm
   refine t_r [1,3,4,5,6,7,16,35] [vP b1,vF,vF,vF,vF,vB (decide (x9 < 0)),vU t_.aj,vB (t_.aj == 4)] [] ?_
   refine t_i2 hm (fun hm => ?_)
   obtain ⟨z29,hz,hm⟩:=bindE hm
   refine t_cut [1,3,4,5,6,7,16,63] [vP b1,vF,vF,vF,vF,vB (decide (x9 < 0)),vU t_.aj,vB z29] [eB b1 (e6 t_)] ?_ ?_
   ·replace hm:=hz
    refine t_r [1,3,4,5,6,7,16,63] [vP b1,vF,vF,vF,vF,vB (decide (x9 < 0)),vU t_.aj,vB (t_.aj == 5)] [] ?_
    refine t_im hm (fun hm => ?c34) (fun hm => ?_)
    case c34 =>
     refine t_skip ?_
     obtain rfl:=someE hm
     exact t_e [1,3,4,5,6,7,16,63]
    refine t_w [1,3,4,5,6,7,16,63] [vP b1,vF,vF,vF,vF,vB (decide (x9 < 0)),vU t_.aj,vB (t_.aj == 7)] [] ?_
    obtain rfl:=someE hm
    exact t_e [1,3,4,5,6,7,16,63]
   ·refine t_if (fun hc => ?c57) (fun hc => ?_)
    case c57 =>
     replace hm:=bT hc hm
     intro _ _ H hS
     exact noneE hm
    replace hm:=bF hc hm
    refine t_r [1,3,4,5,6,7,16,66] [vP b1,vF,vF,vF,vF,vB (decide (x9 < 0)),vU t_.aj,vB (t_.aj == 9)] [] ?_
    refine t_i2 hm (fun hm => ?_)
    obtain ⟨z37,hz,hm⟩:=bindE hm
    refine t_cut [1,3,4,5,6,7,94] [vP b1,vF,vF,vF,vF,vB (decide (x9 < 0)),vB z37] [eB b1 (e6 t_)] ?_ ?_
    ·replace hm:=hz
     refine t_r [1,3,4,5,6,7,16,94] [vP b1,vF,vF,vF,vF,vB (decide (x9 < 0)),vU t_.aj,vB (t_.aj == 10)] [] ?_
     refine t_im hm (fun hm => ?c45) (fun hm => ?_)
     case c45 =>
      refine t_skip ?_
      obtain rfl:=someE hm
      exact t_e [1,3,4,5,6,7,94]
     refine t_r [1,3,4,5,6,7,16,94] [vP b1,vF,vF,vF,vF,vB (decide (x9 < 0)),vU t_.aj,vB (t_.aj == 11)] [] ?_
     refine t_im hm (fun hm => ?c44) (fun hm => ?_)
     case c44 =>
      refine t_skip ?_
      obtain rfl:=someE hm
      exact t_e [1,3,4,5,6,7,94]
     refine t_w [1,3,4,5,6,7,94] [vP b1,vF,vF,vF,vF,vB (decide (x9 < 0)),vB (t_.aj == 12)] [] ?_
     obtain rfl:=someE hm
     exact t_e [1,3,4,5,6,7,94]
    ·refine t_im hm (fun hm => ?_) (fun hm => ?c54)
     case c54 =>
      intro _ _ H hS
      exact noneE hm
     refine t_dr [1,3,4,5,6,7] [vP b1,vF,vB (t_.aj == 12),vT,vB (t_.aj != 11),vB (decide (x9 < 0))] [kb 0 0,kb 0 0] ?_
     obtain ⟨x48,hx48,hm⟩:=letE hm
     obtain ⟨x49,hx49,hm⟩:=letE hm
     obtain ⟨x50,hx50,hm⟩:=letE hm
     obtain ⟨x51,hx51,hm⟩:=letE hm
     refine t_w [1,3,4,5,6,7] [vP b1,vF,vB (t_.aj == 12),vT,vB (t_.aj != 11),vB x51] [kgb ((decide (x9 < 0)) = true ∧ True) 0 2,kgb (x48 = true ∧ True) 0 2,kgb (x49 = true ∧ True) 0 4,kgb ((!t_.l3) = false ∧ x49 = true ∧ True) 0 2,⟨none,fun _ => ((!t_.l3) = false ∧ x49 = true ∧ True → (1000 : Int) ≠ 0),fun _ _ => fun hg => (by show (1000 : Int) ≠ 0; decide)⟩,kgb ((!(t_.aj == 12)) = false ∧ x50 = true ∧ True) 0 3] ?_ (he:=by subst hx48 hx49 hx50 hx51; kernel_rfl)
     obtain rfl:=someE hm
     exact t_e [1,3,4,5,6,7]
 ·obtain ⟨x62,hx62,hm⟩:=letE hm
  obtain ⟨x63,hx63,hm⟩:=letE hm
  obtain ⟨x64,hx64,hm⟩:=letE hm
  obtain ⟨x65,hx65,hm⟩:=letE hm
  refine t_r [2] [vB x65] [kgb (z12.1 = false ∧ z12.2.2.2.2 = true ∧ True) 0 1,kgb (z12.2.1 = false ∧ x62 = true ∧ True) 0 3,kgb (z12.2.2.1 = false ∧ x63 = true ∧ True) 0 2,kgb (z12.2.2.2.1 = false ∧ x64 = true ∧ True) 0 4] ?_ (he:=by subst hx62 hx63 hx64 hx65; kernel_rfl)
  refine t_sel [] (t_ret ?_)
  obtain rfl:=someE hm
  exact t_n [] rs1

def oa (m : Nat) (a_ : Str) (b_ : Str) : Option (Bool) :=
  Option.bind (ib m a_) fun y3 =>
  Option.bind (ib m b_) fun y4 =>
  some (y3 == y4)
theorem sC  (m : Nat) (a_ : Str) (b_ : Str) (r : Bool) (hm : oa m a_ b_ = some r) : Ret Tryz.prog 247 ⟨[vS a_,vS b_]⟩ (vB r):=by
 rw [oa] at hm
 refine f_pure (Tryz.call247 _) Tryz.func247 Tryz.ntmps247 fun M X w => ?_
 refine t_r [0,1] [vS a_,vS b_] [] ?_
 obtain ⟨y3,hy3,hm⟩:=bindE hm
 obtain ⟨y4,hy4,hm⟩:=bindE hm
 refine t_r [4] [vB (y3 == y4)] [kc (h7 m _ _ hy3),kc (h7 m _ _ hy4)] (t_ret ?_)
 obtain rfl:=someE hm
 exact t_n [] rs1

def pu (m : Nat) (l_ : List aR) : Option (Int) :=
  chk (0 ≤ (0 : Int) ∧ (0 : Int) < ln l_) <|
  lt (cond (((gi l_ (0 : Int)).aj) == 9) (((gi l_ (0 : Int)).ei) == [92]) false) fun x16 =>
  cond x16 (
  none) (
  Option.bind (cond (((gi l_ (0 : Int)).aj) == 2) (oa m ((gi l_ (0 : Int)).ei) [117,114,108]) (some default)) fun y19 =>
  lt (cond (((gi l_ (0 : Int)).aj) == 2) y19 false) fun x20 =>
  cond x20 (
  none) (
  some 1))
theorem tk {aa : Gh} (m : Nat) (l_ : List aR) (r : Int) (hm : pu m l_ = some r) (w : World) (hL : S0 F0 [eI bz l_ aa] w ∧ fpl [eI bz l_ aa] = []) : RetB Tryz.prog 205 ⟨[vL aa l_]⟩ (vI r) w:=by
 rw [pu] at hm
 refine f_read hL (Tryz.call205 _) Tryz.func205 Tryz.ntmps205 fun M X w => (t_starts ?_)
 refine t_m [] [0] [] [] (fun _ _ H hd => o_box [vL aa l_] H hd rfl rfl) fun b1 => ?_
 refine t_b 2 [1] [vP b1] [] (t_end ?_)
 refine t_r [1,3] [vP b1,.func (.func 246) ⟨[]⟩ ⟨[vP b1]⟩] [] (t_seq (t_starts ?_))
 obtain ⟨ho8,hm⟩:=chkE hm
 refine t_b 3 [3,9] [.func (.func 246) ⟨[]⟩ ⟨[vP b1]⟩,.agg ⟨e6 (gi l_ (0 : Int))⟩] [kb 0 0,ki 1 ho8,⟨some (.agg ⟨e6 (gi l_ (0 : Int))⟩),fun wz => V.atN (ab aa.a) (ao aa.a + ((0 : Int)).toNat * 5) (e6 (gi l_ (0 : Int))) 0 wz,fun _ hS => ((hS.im 1 rfl).atA ho8 0 rfl)⟩] ?_
 refine t_m [] [0,1] [3,9] [.func (.func 246) ⟨[]⟩ ⟨[vP b1]⟩,.agg ⟨e6 (gi l_ (0 : Int))⟩] (fun _ _ H10 hd => o_alloc [vU 0,vN,vI 0,vN,vF] (z:=vG [vU 0,vN,vI 0,vN,vF]) hd (by kernel_rfl) rfl) fun b11 => ?_
 refine t_m0 [0] [1,2] [3,4] [.func (.func 246) ⟨[]⟩ ⟨[vP b1]⟩,vP b11] (fun _ _ H13 hd => o_store (e6 (gi l_ (0 : Int))) H13 hd rfl rfl (by kernel_rfl) rfl rfl rfl) (t_end (t_block ?_))
 obtain ⟨x16,hx16,hm⟩:=letE hm
 refine t_r [3,4,10] [.func (.func 246) ⟨[]⟩ ⟨[vP b1]⟩,vP b11,vB x16] [kb 0 0,kgb ((((gi l_ (0 : Int)).aj) == 9) = true ∧ True) 0 1] ?_ (he:=by subst hx16; kernel_rfl)
 refine t_im hm (fun hm => ?c26) (fun hm => ?_)
 case c26 =>
  refine t_seq ?_
  intro _ _ H18 hS
  exact noneE hm
 obtain ⟨y19,hy19,hm⟩:=bindE hm
 obtain ⟨x20,hx20,hm⟩:=letE hm
 refine t_r [3,22] [.func (.func 246) ⟨[]⟩ ⟨[vP b1]⟩,vB x20] [kb 0 0,kgb ((((gi l_ (0 : Int)).aj) == 2) = true ∧ True) 0 1,kgc ((((gi l_ (0 : Int)).aj) == 2) = true ∧ True) fun hg => (sC m _ _ _ (bT (hg.1) hy19))] ?_ (he:=by subst hx20; kernel_rfl)
 refine t_sel [1,2] ?_
 refine t_i2 hm (fun hm => ?_)
 refine t_skip ?_
 refine t_r [2] [vI 1] [] (t_sel [] (t_ret ?_))
 obtain rfl:=someE hm
 exact t_n [] rs1

def kd (m : Nat) (l_ : List aR) : Nat → Int → Option (Unit)
  | 0,_ => none
  | kk + 1,v8 =>
    cond (decide (v8 < (ln l_))) (
    chk (0 ≤ v8 ∧ v8 < ln l_) <|
    Option.bind (
    Option.bind (rb (gi l_ v8)) fun y22 =>
    lt (!y22) fun x23 =>
    cond x23 (
    some true) (
    chk (0 ≤ v8 ∧ v8 ≤ (ln l_) ∧ (ln l_) ≤ ln l_) <|
    lt (subl l_ v8 (ln l_)) fun q36 =>
    Option.bind (pu m q36) fun y41 =>
    some (y41 == 0))) fun (z21 : Bool) =>
    cond z21 (
    none) (
    kd m l_ kk (w64 (v8 + 1)))) (
    some ())
def pC (m : Nat) (l_ : List aR) : Option (Int) :=
  cond (decide (1500 < (ln l_))) (
  none) (
  Option.bind (
  kd m l_ m 0) fun (z5 : Unit) =>
  some 0)
theorem tu {aa : Gh} (m : Nat) (l_ : List aR) (r : Int) (hm : pC m l_ = some r) (w : World) (hL : S0 F0 [eI bz l_ aa] w ∧ fpl [eI bz l_ aa] = []) : RetB Tryz.prog 140 ⟨[vL aa l_]⟩ (vI r) w:=by
 rw [pC] at hm
 refine f_read hL (Tryz.call140 _) Tryz.func140 Tryz.ntmps140 fun M X w => ?_
 refine t_r [0] [vL aa l_] [] (t_seq ?_)
 refine t_r [0,7] [vL aa l_,vB (decide (1500 < (ln l_)))] [] ?_
 refine t_i2 hm (fun hm => ?_)
 refine t_skip ?_
 obtain ⟨z5,hz,hm⟩:=bindE hm
 refine t_cut [] [] [eI bz l_ aa] ?_ ?_
 ·replace hm:=hz
  refine t_r [0,8,9,10] [vL aa l_,vL aa l_,vI (ln l_),vI 0] [] (t_block ?_)
  intro _ _ H7 hS
  refine w_loop (fun kk a' w' => ∃ (v8 : Int),kd m l_ kk v8 = some _ ∧ Fr 26 (fS [0,8,9,10] [vL aa l_,vL aa l_,vI (ln l_),vI v8]) a' ∧ SH M X w [eI bz l_ aa] w') ⟨_,0,hm,FrG.keep (ks:=[0,8,9,10]) H7 (by kernel_rfl),hS⟩ ?_
  clear hm H7 hS
  rintro kk _ _ ⟨v8,hm,H,hS⟩
  cases kk with
  | zero => exact noneE hm
  | succ kk =>
   rw [kd] at hm
   refine t_in H hS ?_
   refine t_r [0,8,9,10,11] [vL aa l_,vL aa l_,vI (ln l_),vI v8,vB (decide (v8 < (ln l_)))] [] (t_seq ?_)
   refine t_im hm (fun hm => ?_) (fun hm => ?c48)
   case c48 =>
    refine t_exit ?_
    obtain rfl:=someE hm
    exact t_e []
   refine t_skip (t_seq (t_block (t_starts ?_)))
   obtain ⟨ho11,hm⟩:=chkE hm
   refine t_b 3 [0,8,9,10,12,14] [vL aa l_,vL aa l_,vI (ln l_),vI v8,vI v8,.agg ⟨e6 (gi l_ v8)⟩] [ki 0 ho11,⟨some (.agg ⟨e6 (gi l_ v8)⟩),fun wz => V.atN (ab aa.a) (ao aa.a + (v8).toNat * 5) (e6 (gi l_ v8)) 0 wz,fun _ hS => ((hS.im 0 rfl).atA ho11 0 rfl)⟩] ?_
   refine t_m [] [0] [0,8,9,10,12,14] [vL aa l_,vL aa l_,vI (ln l_),vI v8,vI v8,.agg ⟨e6 (gi l_ v8)⟩] (fun _ _ H13 hd => o_alloc [vU 0,vN,vI 0,vN,vF] (z:=vG [vU 0,vN,vI 0,vN,vF]) hd (by kernel_rfl) rfl) fun b14 => ?_
   refine t_b 5 [0,3,4,8,9,10,14] [vL aa l_,vI v8,vP b14,vL aa l_,vI (ln l_),vI v8,.agg ⟨e6 (gi l_ v8)⟩] [] ?_
   refine t_m0 [0] [1] [0,3,4,8,9,10] [vL aa l_,vI v8,vP b14,vL aa l_,vI (ln l_),vI v8] (fun _ _ H18 hd => o_store (e6 (gi l_ v8)) H18 hd rfl rfl (by kernel_rfl) rfl rfl rfl) (t_end ?_)
   obtain ⟨z21,hz,hm⟩:=bindE hm
   refine t_cut [0,8,9,10,24] [vL aa l_,vL aa l_,vI (ln l_),vI v8,vB z21] [eB b14 (e6 (gi l_ v8)),eI bz l_ aa] ?_ ?_
   ·replace hm:=hz
    refine t_start ?_
    obtain ⟨y22,hy22,hm⟩:=bindE hm
    obtain ⟨x23,hx23,hm⟩:=letE hm
    refine t_b 4 [0,3,8,9,10,18] [vL aa l_,vI v8,vL aa l_,vI (ln l_),vI v8,vB x23] [kE 0 5,kc (uj _ _ hy22)] ?_ (he:=by subst hx23; kernel_rfl)
    cases x23
    case true =>
     replace hm:=bT rfl hm
     intro _ _ H25 hS
     refine m_skipG 18 [19,0,3,8,9,10,18] (fS [19,0,3,8,9,10,18] [undef,vL aa l_,vI v8,vL aa l_,vI (ln l_),vI v8,vT]) H25 rfl rfl rfl rfl rfl rfl fun _ H26 => ?_
     refine m_skipG 18 [20,0,8,9,10,18,19] (fS [20,0,8,9,10,18,19] [undef,vL aa l_,vL aa l_,vI (ln l_),vI v8,vT,undef]) H26 rfl rfl rfl rfl rfl rfl fun _ H27 => ?_
     refine m_skipG 18 [21,0,8,9,10,18] (fS [21,0,8,9,10,18] [undef,vL aa l_,vL aa l_,vI (ln l_),vI v8,vT]) H27 rfl rfl rfl rfl rfl rfl fun _ H28 => ?_
     refine m_skipG 18 [22,0,8,9,10,18] (fS [22,0,8,9,10,18] [undef,vL aa l_,vL aa l_,vI (ln l_),vI v8,vT]) H28 rfl rfl rfl rfl rfl rfl fun _ H29 => ?_
     refine m_skipG 18 [23,0,8,9,10,18] (fS [23,0,8,9,10,18] [undef,vL aa l_,vL aa l_,vI (ln l_),vI v8,vT]) H29 rfl rfl rfl rfl rfl rfl fun _ H30 => ?_
     refine t_in H30 hS ?_
     refine t_b 10 [0,8,9,10,24] [vL aa l_,vL aa l_,vI (ln l_),vI v8,vT] [] (t_end ?_)
     obtain rfl:=someE hm
     exact t_e [0,8,9,10,24]
    replace hm:=bF rfl hm
    intro _ _ H25 hS
    refine wl_batchM 4 6 [] [(0,0),(8,0),(9,0),(10,0),(18,0),(19,1),(20,1)] (fS [0,8,9,10,18,19,20] [vL aa l_,vL aa l_,vI (ln l_),vI v8,vF,vL aa l_,vI v8]) [] H25 (by decide) (by kernel_rfl) trivial fun _ _ H34 hb => ?_
    replace hS:=hS.below hb
    obtain ⟨ho35,hm⟩:=chkE hm
    obtain ⟨q36,hq36,hm⟩:=letE hm
    have hd:=hS.hand [1] [0,1] rfl rfl
    refine m_stpG 18 [21,0,8,9,10,18] (fS [0,8,9,10,18] [vL aa l_,vL aa l_,vI (ln l_),vI v8,vF]) H34 rfl rfl rfl rfl (o_sub (T:=bz) (E:=135) (g:=aa) (q:=l_) v8 (ln l_) (.some (vI v8)) .none H34 hd (hd.im 0 rfl) rfl rfl rfl rfl rfl rfl (.inr ⟨_,rfl⟩) (.inl ⟨rfl,rfl⟩) (by kernel_rfl) (by kernel_rfl) ho35) (fun _ => rfl) fun _ _ v H38 hq => ?_
    obtain ⟨g39,rfl,hq⟩:=hq
    rw [← hq36] at hq
    rw [← hq36] at H38
    replace hS:=hS.join [1] [0,1] rfl rfl hq
    obtain ⟨y41,hy41,hm⟩:=bindE hm
    refine t_in H38 hS ?_
    refine t_b 10 [0,8,9,10,24] [vL aa l_,vL aa l_,vI (ln l_),vI v8,vB (y41 == 0)] [kgr (false = false ∧ True) fun _ hS hg => tk (aa:=g39) m _ _ hy41 _ (s0im s0nil (hS.im 0 rfl))] (t_end (t_sel [1,2] ?_))
    obtain rfl:=someE hm
    refine t_sel [1,0] ?_
    exact t_e [0,8,9,10,24]
   ·refine t_sel [1] ?_
    refine t_i2 hm (fun hm => ?_)
    refine t_skip ?_
    refine t_w [0,8,9,10] [vL aa l_,vL aa l_,vI (ln l_),vI (w64 (v8 + 1))] [] ?_
    exact fun _ _ H45 hS => ⟨_,Nat.lt_succ_self _,w64 (v8 + 1),hm,FrG.keep (ks:=[0,8,9,10]) H45 (by kernel_rfl),hS⟩
 ·refine t_sel [] ?_
  refine t_r [2] [vI 0] [] (t_ret ?_)
  obtain rfl:=someE hm
  exact t_n [] rs1

def cU (v_ : ae) (kind : Int) : Bool :=
  v_.ax.aj == kind
theorem iR {d9 : Gh} (v_ : ae) (kind : Int) (w : World) (hL : S0 F0 [eI a6 v_.a8 d9] w ∧ fpl [eI a6 v_.a8 d9] = []) : RetB Tryz.prog 144 ⟨[.agg ⟨e0 v_ (gL [d9])⟩,vU kind]⟩ (vB (cU v_ kind)) w:=by
 generalize hm : cU v_ kind = r
 rw [cU] at hm
 refine f_read hL (Tryz.call144 _) Tryz.func144 Tryz.ntmps144 fun M X w => (t_starts ?_)
 refine t_m [] [0] [1] [vU kind] (fun _ _ H hd => o_box (e0 v_ (gL [d9])) H hd rfl rfl) fun b1 => ?_
 refine t_b 2 [1,2] [vU kind,vP b1] [] (t_end ?_)
 refine t_r [4] [vB (v_.ax.aj == kind)] [kb 0 0] (t_sel [] (t_ret ?_))
 subst hm
 exact t_n [] rs1

def jG (gf : (List ae) → Option (Bool)) : Prop:=∀ (af : Gh) (M : Av) (v_ : List ae) (r : Bool),gf v_ = some r → ∀ w,S0 M [eI a6 v_ af] w → Calls Tryz.prog 141 ⟨[vL af v_]⟩ w (fun e w' => ∃ v,e = .returned v ∧ v = vB r ∧ SH M (fpl [eI a6 v_ af]) w [] w')
def mb (m : Nat) (bB : (List ae) → Option (Bool)) (x_ : ae) : Option (Bool) :=
  lt (cond (cU x_ 20) true (cU x_ 22)) fun x6 =>
  Option.bind (cond (cond x6 true (cU x_ 24)) (some default) (bB x_.a8)) fun y7 =>
  lt (cond (cond x6 true (cU x_ 24)) true y7) fun x8 =>
  some x8
theorem qy {cQ : Gh} (m : Nat) (bB : (List ae) → Option (Bool)) (fN : jG bB) (x_ : ae) (r : Bool) (hm : mb m bB x_ = some r) (w : World) (hL : S0 F0 [eI a6 x_.a8 cQ] w ∧ fpl [eI a6 x_.a8 cQ] = []) : RetB Tryz.prog 206 ⟨[.agg ⟨e0 x_ (gL [cQ])⟩]⟩ (vB r) w:=by
 rw [mb] at hm
 refine f_read hL (Tryz.call206 _) Tryz.func206 Tryz.ntmps206 fun M X w => (t_starts ?_)
 refine t_m [] [0] [] [] (fun _ _ H hd => o_box (e0 x_ (gL [cQ])) H hd rfl rfl) fun b1 => ?_
 refine t_b 2 [1] [vP b1] [] (t_end ?_)
 obtain ⟨x6,hx6,hm⟩:=letE hm
 obtain ⟨y7,hy7,hm⟩:=bindE hm
 obtain ⟨x8,hx8,hm⟩:=letE hm
 refine t_r [2] [vB x8] [kE 0 6,⟨some (vB (cU x_ 20)),rB 144 [.agg ⟨e0 x_ (gL [cQ])⟩,vU 20] (vB (cU x_ 20)),fun _ hS => (iR (d9:=cQ) x_ 20 _ (s0im s0nil (hS.im 1 rfl)))⟩,⟨some (.agg ⟨e0 x_ (gL [cQ])⟩),fun wz => ((cU x_ 20) = false ∧ True → V.atN b1 0 (e0 x_ (gL [cQ])) 0 wz),fun _ hS => fun hg => (hS.bk 0 rfl).atD rfl⟩,⟨some (vB (cU x_ 22)),fun wz => ((cU x_ 20) = false ∧ True → RetB Tryz.prog 144 ⟨[.agg ⟨e0 x_ (gL [cQ])⟩,vU 22]⟩ (vB (cU x_ 22)) wz),fun _ hS => fun hg => iR (d9:=cQ) x_ 22 _ (s0im s0nil (hS.im 1 rfl))⟩,⟨some (.agg ⟨e0 x_ (gL [cQ])⟩),fun wz => (x6 = false ∧ True → V.atN b1 0 (e0 x_ (gL [cQ])) 0 wz),fun _ hS => fun hg => (hS.bk 0 rfl).atD rfl⟩,⟨some (vB (cU x_ 24)),fun wz => (x6 = false ∧ True → RetB Tryz.prog 144 ⟨[.agg ⟨e0 x_ (gL [cQ])⟩,vU 24]⟩ (vB (cU x_ 24)) wz),fun _ hS => fun hg => iR (d9:=cQ) x_ 24 _ (s0im s0nil (hS.im 1 rfl))⟩,kgb ((cond x6 true (cU x_ 24)) = false ∧ True) 0 5,kgr ((cond x6 true (cU x_ 24)) = false ∧ True) fun _ hS hg => retB_of (s0im s0nil (hS.im 1 rfl)) (Tryz.call141 _) (fun w' h' => fN (cQ) F0 _ _ (bF (hg.1) hy7) w' h')] ?_ (he:=by subst hx6 hx8; kernel_rfl)
 refine t_sel [] (t_ret ?_)
 obtain rfl:=someE hm
 exact t_n [] rs1
def cA (m : Nat) (bB : (List ae) → Option (Bool)) (s : List ae) : Nat → Int → Option (Unit)
  | 0,_ => none
  | kk + 1,v6 =>
    cond (decide (v6 < (ln s))) (
    chk (0 ≤ v6 ∧ v6 < ln s) <|
    Option.bind (mb m bB (gi s v6)) fun y12 =>
    cond y12 (
    none) (
    cA m bB s kk (w64 (v6 + 1)))) (
    some ())
def dM (m : Nat) (bB : (List ae) → Option (Bool)) (s : List ae) : Option (Int) :=
  Option.bind (
  cA m bB s m 0) fun (z3 : Unit) =>
  some (-1)
theorem gZ {g_s : Gh} (m : Nat) (bB : (List ae) → Option (Bool)) (fN : jG bB) (s : List ae) (r : Int) (hm : dM m bB s = some r) (w : World) (hL : S0 F0 [eI a6 s g_s] w ∧ fpl [eI a6 s g_s] = []) : RetB Tryz.prog 207 ⟨[vL g_s s,.func (.func 206) ⟨[]⟩ ⟨[]⟩]⟩ (vI r) w:=by
 rw [dM] at hm
 refine f_read hL (Tryz.call207 _) Tryz.func207 Tryz.ntmps207 fun M X w => ?_
 refine t_r [0,1] [vL g_s s,.func (.func 206) ⟨[]⟩ ⟨[]⟩] [] ?_
 obtain ⟨z3,hz,hm⟩:=bindE hm
 refine t_cut [] [] [eI a6 s g_s] ?_ ?_
 ·replace hm:=hz
  refine t_r [0,1,7,8] [vL g_s s,.func (.func 206) ⟨[]⟩ ⟨[]⟩,vI (ln s),vI 0] [] (t_block ?_)
  intro _ _ H5 hS
  refine w_loop (fun kk a' w' => ∃ (v6 : Int),cA m bB s kk v6 = some _ ∧ Fr 19 (fS [0,1,7,8] [vL g_s s,.func (.func 206) ⟨[]⟩ ⟨[]⟩,vI (ln s),vI v6]) a' ∧ SH M X w [eI a6 s g_s] w') ⟨_,0,hm,FrG.keep (ks:=[0,1,7,8]) H5 (by kernel_rfl),hS⟩ ?_
  clear hm H5 hS
  rintro kk _ _ ⟨v6,hm,H,hS⟩
  cases kk with
  | zero => exact noneE hm
  | succ kk =>
   rw [cA] at hm
   refine t_in H hS ?_
   refine t_r [0,1,7,8,9] [vL g_s s,.func (.func 206) ⟨[]⟩ ⟨[]⟩,vI (ln s),vI v6,vB (decide (v6 < (ln s)))] [] (t_seq ?_)
   refine t_im hm (fun hm => ?_) (fun hm => ?c18)
   case c18 =>
    refine t_exit ?_
    obtain rfl:=someE hm
    exact t_e []
   refine t_skip (t_seq (t_block ?_))
   refine t_r [0,1,5,7,8] [vL g_s s,.func (.func 206) ⟨[]⟩ ⟨[]⟩,vI v6,vI (ln s),vI v6] [] ?_
   obtain ⟨ho11,hm⟩:=chkE hm
   obtain ⟨y12,hy12,hm⟩:=bindE hm
   refine t_r [0,1,5,7,8,16] [vL g_s s,.func (.func 206) ⟨[]⟩ ⟨[]⟩,vI v6,vI (ln s),vI v6,vB y12] [ki 0 ho11,⟨some (.agg ⟨e0 (gi s v6) (g_s.s (v6).toNat)⟩),fun wz => V.atN (ab g_s.a) (ao g_s.a + (v6).toNat * 6) (e0 (gi s v6) (g_s.s (v6).toNat)) 0 wz,fun _ hS => ((hS.im 0 rfl).atA ho11 0 rfl)⟩,kr fun _ hS => qy (cQ:=(g_s.s (v6).toNat 0)) m _ fN _ _ hy12 _ (s0im s0nil (dX ((hS.im 0 rfl).el ho11)))] ?_
   refine t_i2 hm (fun hm => ?_)
   refine t_skip ?_
   refine t_w [0,1,7,8] [vL g_s s,.func (.func 206) ⟨[]⟩ ⟨[]⟩,vI (ln s),vI (w64 (v6 + 1))] [] ?_
   exact fun _ _ H16 hS => ⟨_,Nat.lt_succ_self _,w64 (v6 + 1),hm,FrG.keep (ks:=[0,1,7,8]) H16 (by kernel_rfl),hS⟩
 ·refine t_sel [] ?_
  refine t_r [4] [vI (-1)] [] (t_ret ?_)
  obtain rfl:=someE hm
  exact t_n [] rs1
def dx (m : Nat) (bB : (List ae) → Option (Bool)) (s : List ae) : Option (Bool) :=
  Option.bind (dM m bB s) fun y3 =>
  some (decide (0 ≤ y3))
theorem gm {g_s : Gh} (m : Nat) (bB : (List ae) → Option (Bool)) (fN : jG bB) (s : List ae) (r : Bool) (hm : dx m bB s = some r) (w : World) (hL : S0 F0 [eI a6 s g_s] w ∧ fpl [eI a6 s g_s] = []) : RetB Tryz.prog 142 ⟨[vL g_s s,.func (.func 206) ⟨[]⟩ ⟨[]⟩]⟩ (vB r) w:=by
 rw [dx] at hm
 refine f_read hL (Tryz.call142 _) Tryz.func142 Tryz.ntmps142 fun M X w => ?_
 refine t_r [0,1] [vL g_s s,.func (.func 206) ⟨[]⟩ ⟨[]⟩] [] ?_
 obtain ⟨y3,hy3,hm⟩:=bindE hm
 refine t_r [4] [vB (decide (0 ≤ y3))] [kr fun _ hS => gZ (g_s:=g_s) m _ fN _ _ hy3 _ (s0im s0nil (hS.im 0 rfl))] (t_sel [] (t_ret ?_))
 obtain rfl:=someE hm
 exact t_n [] rs1
def jF (m : Nat) : Nat → (List ae) → Option (Bool)
  | 0,_ => none
  | k + 1,v_ =>
    Option.bind (dx m (jF m k) v_) fun y3 =>
    some y3
theorem sw (m : Nat) : ∀ (k : Nat),jG (jF m  k):=by
 intro k
 induction k with
 | zero => intro af M v_ r hm; exact noneE hm
 | succ k ih =>
  intro af M v_ r hm w hS
  rw [jF] at hm
  have hS0 : SH M (fpl [eI a6 v_ af]) w [eI a6 v_ af] w:=hS
  generalize hX : fpl [eI a6 v_ af] = X at hS0 ⊢
  clear hS hX
  have hS:=hS0
  clear hS0
  refine calls_entryP Tryz.func141 rfl Tryz.ntmps141 rfl fun _ H => ?_
  refine t_in H hS ?_
  refine t_r [0] [vL af v_] [] ?_
  obtain ⟨y3,hy3,hm⟩:=bindE hm
  refine t_r [2] [vB y3] [kr fun _ hS => gm (g_s:=af) m _ ih _ _ hy3 _ (s0im s0nil (hS.im 0 rfl))] (t_sel [] (t_ret ?_))
  obtain rfl:=someE hm
  exact t_n [] rs1
def ql (m : Nat) (v_ : List ae) : Option (Bool):=jF m  m v_
theorem rS {af : Gh} (m : Nat) (v_ : List ae) (r : Bool) (hm : ql m v_ = some r) (w : World) (hL : S0 F0 [eI a6 v_ af] w ∧ fpl [eI a6 v_ af] = []) : RetB Tryz.prog 141 ⟨[vL af v_]⟩ (vB r) w:=retB_of hL (Tryz.call141 _) (fun w' h => sw m   m af F0 v_ r hm w' h)

def jS (v_ : ae) : Bool :=
  lt (cond (cU v_ 9) (v_.ax.ei == [33]) false) fun x6 =>
  x6
theorem u7 {d9 : Gh} (v_ : ae) (w : World) (hL : S0 F0 [eI a6 v_.a8 d9] w ∧ fpl [eI a6 v_.a8 d9] = []) : RetB Tryz.prog 145 ⟨[.agg ⟨e0 v_ (gL [d9])⟩]⟩ (vB (jS v_)) w:=by
 generalize hm : jS v_ = r
 rw [jS] at hm
 refine f_read hL (Tryz.call145 _) Tryz.func145 Tryz.ntmps145 fun M X w => (t_starts ?_)
 refine t_m [] [0] [] [] (fun _ _ H hd => o_box (e0 v_ (gL [d9])) H hd rfl rfl) fun b1 => ?_
 refine t_b 2 [1] [vP b1] [] (t_end ?_)
 obtain ⟨x6,hx6,hm⟩:=letE hm
 refine t_r [2] [vB x6] [kE 0 6,⟨some (vB (cU v_ 9)),rB 144 [.agg ⟨e0 v_ (gL [d9])⟩,vU 9] (vB (cU v_ 9)),fun _ hS => (iR (d9:=d9) v_ 9 _ (s0im s0nil (hS.im 1 rfl)))⟩,kgb ((cU v_ 9) = true ∧ True) 0 1] ?_ (he:=by subst hx6; kernel_rfl)
 refine t_sel [] (t_ret ?_)
 subst hm
 exact t_n [] rs1

def j3 (x_ : ae) : Bool :=
  cond (cU x_ 17) true (jS x_)
theorem rU {cQ : Gh} (x_ : ae) (w : World) (hL : S0 F0 [eI a6 x_.a8 cQ] w ∧ fpl [eI a6 x_.a8 cQ] = []) : RetB Tryz.prog 143 ⟨[.agg ⟨e0 x_ (gL [cQ])⟩]⟩ (vB (j3 x_)) w:=by
 generalize hm : j3 x_ = r
 rw [j3] at hm
 refine f_read hL (Tryz.call143 _) Tryz.func143 Tryz.ntmps143 fun M X w => (t_starts ?_)
 refine t_m [] [0] [] [] (fun _ _ H hd => o_box (e0 x_ (gL [cQ])) H hd rfl rfl) fun b1 => ?_
 refine t_b 2 [1] [vP b1] [] (t_end ?_)
 refine t_r [2] [vB (cond (cU x_ 17) true (jS x_))] [kE 0 6,⟨some (vB (cU x_ 17)),rB 144 [.agg ⟨e0 x_ (gL [cQ])⟩,vU 17] (vB (cU x_ 17)),fun _ hS => (iR (d9:=cQ) x_ 17 _ (s0im s0nil (hS.im 1 rfl)))⟩,⟨some (.agg ⟨e0 x_ (gL [cQ])⟩),fun wz => ((cU x_ 17) = false ∧ True → V.atN b1 0 (e0 x_ (gL [cQ])) 0 wz),fun _ hS => fun hg => (hS.bk 0 rfl).atD rfl⟩,⟨some (vB (jS x_)),fun wz => ((cU x_ 17) = false ∧ True → RetB Tryz.prog 145 ⟨[.agg ⟨e0 x_ (gL [cQ])⟩]⟩ (vB (jS x_)) wz),fun _ hS => fun hg => u7 (d9:=cQ) x_ _ (s0im s0nil (hS.im 1 rfl))⟩] (t_sel [] (t_ret ?_))
 subst hm
 exact t_n [] rs1

def cm (m : Nat) (s : List ae) : Nat → Int → Option (Unit)
  | 0,_ => none
  | kk + 1,v6 =>
    cond (decide (v6 < (ln s))) (
    chk (0 ≤ v6 ∧ v6 < ln s) <|
    cond (j3 (gi s v6)) (
    none) (
    cm m s kk (w64 (v6 + 1)))) (
    some ())
def dB (m : Nat) (s : List ae) : Option (Int) :=
  Option.bind (
  cm m s m 0) fun (z3 : Unit) =>
  some (-1)
theorem gB {g_s : Gh} (m : Nat) (s : List ae) (r : Int) (hm : dB m s = some r) (w : World) (hL : S0 F0 [eI a6 s g_s] w ∧ fpl [eI a6 s g_s] = []) : RetB Tryz.prog 207 ⟨[vL g_s s,.func (.func 143) ⟨[]⟩ ⟨[]⟩]⟩ (vI r) w:=by
 rw [dB] at hm
 refine f_read hL (Tryz.call207 _) Tryz.func207 Tryz.ntmps207 fun M X w => ?_
 refine t_r [0,1] [vL g_s s,.func (.func 143) ⟨[]⟩ ⟨[]⟩] [] ?_
 obtain ⟨z3,hz,hm⟩:=bindE hm
 refine t_cut [] [] [eI a6 s g_s] ?_ ?_
 ·replace hm:=hz
  refine t_r [0,1,7,8] [vL g_s s,.func (.func 143) ⟨[]⟩ ⟨[]⟩,vI (ln s),vI 0] [] (t_block ?_)
  intro _ _ H5 hS
  refine w_loop (fun kk a' w' => ∃ (v6 : Int),cm m s kk v6 = some _ ∧ Fr 19 (fS [0,1,7,8] [vL g_s s,.func (.func 143) ⟨[]⟩ ⟨[]⟩,vI (ln s),vI v6]) a' ∧ SH M X w [eI a6 s g_s] w') ⟨_,0,hm,FrG.keep (ks:=[0,1,7,8]) H5 (by kernel_rfl),hS⟩ ?_
  clear hm H5 hS
  rintro kk _ _ ⟨v6,hm,H,hS⟩
  cases kk with
  | zero => exact noneE hm
  | succ kk =>
   rw [cm] at hm
   refine t_in H hS ?_
   refine t_r [0,1,7,8,9] [vL g_s s,.func (.func 143) ⟨[]⟩ ⟨[]⟩,vI (ln s),vI v6,vB (decide (v6 < (ln s)))] [] (t_seq ?_)
   refine t_im hm (fun hm => ?_) (fun hm => ?c17)
   case c17 =>
    refine t_exit ?_
    obtain rfl:=someE hm
    exact t_e []
   refine t_skip (t_seq (t_block ?_))
   refine t_r [0,1,5,7,8] [vL g_s s,.func (.func 143) ⟨[]⟩ ⟨[]⟩,vI v6,vI (ln s),vI v6] [] ?_
   obtain ⟨ho11,hm⟩:=chkE hm
   refine t_r [0,1,5,7,8,16] [vL g_s s,.func (.func 143) ⟨[]⟩ ⟨[]⟩,vI v6,vI (ln s),vI v6,vB (j3 (gi s v6))] [ki 0 ho11,⟨some (.agg ⟨e0 (gi s v6) (g_s.s (v6).toNat)⟩),fun wz => V.atN (ab g_s.a) (ao g_s.a + (v6).toNat * 6) (e0 (gi s v6) (g_s.s (v6).toNat)) 0 wz,fun _ hS => ((hS.im 0 rfl).atA ho11 0 rfl)⟩,kr fun _ hS => rU (cQ:=(g_s.s (v6).toNat 0)) (gi s v6) _ (s0im s0nil (dX ((hS.im 0 rfl).el ho11)))] ?_
   refine t_i2 hm (fun hm => ?_)
   refine t_skip ?_
   refine t_w [0,1,7,8] [vL g_s s,.func (.func 143) ⟨[]⟩ ⟨[]⟩,vI (ln s),vI (w64 (v6 + 1))] [] ?_
   exact fun _ _ H15 hS => ⟨_,Nat.lt_succ_self _,w64 (v6 + 1),hm,FrG.keep (ks:=[0,1,7,8]) H15 (by kernel_rfl),hS⟩
 ·refine t_sel [] ?_
  refine t_r [4] [vI (-1)] [] (t_ret ?_)
  obtain rfl:=someE hm
  exact t_n [] rs1

def di (m : Nat) (s : List ae) : Option (Bool) :=
  Option.bind (dB m s) fun y3 =>
  some (decide (0 ≤ y3))
theorem ga {g_s : Gh} (m : Nat) (s : List ae) (r : Bool) (hm : di m s = some r) (w : World) (hL : S0 F0 [eI a6 s g_s] w ∧ fpl [eI a6 s g_s] = []) : RetB Tryz.prog 142 ⟨[vL g_s s,.func (.func 143) ⟨[]⟩ ⟨[]⟩]⟩ (vB r) w:=by
 rw [di] at hm
 refine f_read hL (Tryz.call142 _) Tryz.func142 Tryz.ntmps142 fun M X w => ?_
 refine t_r [0,1] [vL g_s s,.func (.func 143) ⟨[]⟩ ⟨[]⟩] [] ?_
 obtain ⟨y3,hy3,hm⟩:=bindE hm
 refine t_r [4] [vB (decide (0 ≤ y3))] [kr fun _ hS => gB (g_s:=g_s) m _ _ hy3 _ (s0im s0nil (hS.im 0 rfl))] (t_sel [] (t_ret ?_))
 obtain rfl:=someE hm
 exact t_n [] rs1

def pI (m : Nat) (d_ : bD) : Option (Int) :=
  Option.bind (rf m d_.Value) fun y10 =>
  Option.bind (pp m d_.bA) fun y17 =>
  Option.bind (cond (cond (!y17) true (y10.2 != 0)) (some default) (pC m y10.1)) fun y18 =>
  lt (cond (cond (!y17) true (y10.2 != 0)) true (y18 != 0)) fun x19 =>
  Option.bind (cond x19 (some default) (ql m d_.Value)) fun y20 =>
  cond (cond x19 true y20) (
  none) (
  Option.bind (di m d_.Value) fun y23 =>
  cond y23 (
  none) (
  Option.bind (cond ((ln d_.Value) == 0) (fF d_.bA [45,45]) (some default)) fun y28 =>
  chk ((decide (0 < (ln d_.Value))) = true → (cond ((ln d_.Value) == 0) (!y28) false) = false → 0 ≤ (0 : Int) ∧ (0 : Int) < ln d_.Value) <|
  chk ((cU (gi d_.Value (0 : Int)) 13) = false → (decide (0 < (ln d_.Value))) = true → (cond ((ln d_.Value) == 0) (!y28) false) = false → 0 ≤ (w64 ((ln d_.Value) - 1)) ∧ (w64 ((ln d_.Value) - 1)) < ln d_.Value) <|
  lt (cU (gi d_.Value (w64 ((ln d_.Value) - 1))) 13) fun y31 =>
  lt (cond (cond ((ln d_.Value) == 0) (!y28) false) true (cond (decide (0 < (ln d_.Value))) (cond (cU (gi d_.Value (0 : Int)) 13) true y31) false)) fun x32 =>
  cond x32 (
  none) (
  some 0)))
theorem tE {bn : Gh} (m : Nat) (d_ : bD) (r : Int) (hm : pI m d_ = some r) (w : World) (hL : S0 F0 [eI a6 d_.Value bn] w ∧ fpl [eI a6 d_.Value bn] = []) : RetB Tryz.prog 89 ⟨[.agg ⟨e11 d_ (gL [bn])⟩]⟩ (vI r) w:=by
 rw [pI] at hm
 refine f_read hL (Tryz.call89 _) Tryz.func89 Tryz.ntmps89 fun M X w => (t_starts ?_)
 refine t_m [] [0] [] [] (fun _ _ H hd => o_box (e11 d_ (gL [bn])) H hd rfl rfl) fun b1 => ?_
 refine t_b 2 [1] [vP b1] [] (t_end ?_)
 refine t_r [1,3] [vP b1,vL bn d_.Value] [kb 0 1] (t_starts ?_)
 refine t_b 1 [1,3,10] [vP b1,vL bn d_.Value,vL bn d_.Value] [] ?_
 obtain ⟨y10,hy10,hm⟩:=bindE hm
 refine t_c [1] [0,1] [1,3] [vP b1,vL bn d_.Value] (uz (af:=bn) m _ _ hy10) fun g11 => ?_
 refine t_b 7 [1,3,4,5] [vP b1,vL bn d_.Value,vL g11 y10.1,vI y10.2] [] (t_end (t_seq ?_))
 obtain ⟨y17,hy17,hm⟩:=bindE hm
 obtain ⟨y18,hy18,hm⟩:=bindE hm
 obtain ⟨x19,hx19,hm⟩:=letE hm
 obtain ⟨y20,hy20,hm⟩:=bindE hm
 refine t_r [1,3,30] [vP b1,vL bn d_.Value,vB (cond x19 true y20)] [kb 1 0,kc (tJ m _ _ hy17),kgr ((cond (!y17) true (y10.2 != 0)) = false ∧ True) fun _ hS hg => tu (aa:=g11) m _ _ (bF (hg.1) hy18) _ (s0im s0nil (hS.osl 0 rfl)),kgr (x19 = false ∧ True) fun _ hS hg => rS (af:=bn) m _ _ (bF (hg.1) hy20) _ (s0im s0nil (hS.im 2 rfl))] ?_ (he:=by subst hx19; kernel_rfl)
 refine t_sel [1,2] ?_
 refine t_i2 hm (fun hm => ?_)
 refine t_skip (t_seq ?_)
 obtain ⟨y23,hy23,hm⟩:=bindE hm
 refine t_r [1,3,32] [vP b1,vL bn d_.Value,vB y23] [kr fun _ hS => ga (g_s:=bn) m _ _ hy23 _ (s0im s0nil (hS.im 1 rfl))] ?_
 refine t_i2 hm (fun hm => ?_)
 refine t_skip ?_
 refine t_r [1,3,6] [vP b1,vL bn d_.Value,vI (ln d_.Value)] [] (t_seq ?_)
 obtain ⟨y28,hy28,hm⟩:=bindE hm
 obtain ⟨ho29,hm⟩:=chkE hm
 obtain ⟨ho30,hm⟩:=chkE hm
 obtain ⟨y31,hy31,hm⟩:=letE hm
 obtain ⟨x32,hx32,hm⟩:=letE hm
 refine t_r [60] [vB x32] [kgb (((ln d_.Value) == 0) = true ∧ True) 0 0,kgc (((ln d_.Value) == 0) = true ∧ True) fun hg => (i6 _ _ _ (bT (hg.1) hy28)),kgi ((decide (0 < (ln d_.Value))) = true ∧ (cond ((ln d_.Value) == 0) (!y28) false) = false ∧ True) 1 fun hg => (ho29 hg.1 hg.2.1),⟨some (.agg ⟨e0 (gi d_.Value (0 : Int)) (bn.s ((0 : Int)).toNat)⟩),fun wz => ((decide (0 < (ln d_.Value))) = true ∧ (cond ((ln d_.Value) == 0) (!y28) false) = false ∧ True → V.atN (ab bn.a) (ao bn.a + ((0 : Int)).toNat * 6) (e0 (gi d_.Value (0 : Int)) (bn.s ((0 : Int)).toNat)) 0 wz),fun _ hS => fun hg => (hS.im 1 rfl).atA (ho29 hg.1 hg.2.1) 0 rfl⟩,kgr ((decide (0 < (ln d_.Value))) = true ∧ (cond ((ln d_.Value) == 0) (!y28) false) = false ∧ True) fun _ hS hg => iR (d9:=(bn.s ((0 : Int)).toNat 0)) (gi d_.Value (0 : Int)) 13 _ (s0im s0nil (dX ((hS.im 1 rfl).el (ho29 hg.1 hg.2.1)))),kgi ((cU (gi d_.Value (0 : Int)) 13) = false ∧ (decide (0 < (ln d_.Value))) = true ∧ (cond ((ln d_.Value) == 0) (!y28) false) = false ∧ True) 1 fun hg => (ho30 hg.1 hg.2.1 hg.2.2.1),⟨some (.agg ⟨e0 (gi d_.Value (w64 ((ln d_.Value) - 1))) (bn.s ((w64 ((ln d_.Value) - 1))).toNat)⟩),fun wz => ((cU (gi d_.Value (0 : Int)) 13) = false ∧ (decide (0 < (ln d_.Value))) = true ∧ (cond ((ln d_.Value) == 0) (!y28) false) = false ∧ True → V.atN (ab bn.a) (ao bn.a + ((w64 ((ln d_.Value) - 1))).toNat * 6) (e0 (gi d_.Value (w64 ((ln d_.Value) - 1))) (bn.s ((w64 ((ln d_.Value) - 1))).toNat)) 0 wz),fun _ hS => fun hg => (hS.im 1 rfl).atA (ho30 hg.1 hg.2.1 hg.2.2.1) 0 rfl⟩,⟨some (vB y31),fun wz => ((cU (gi d_.Value (0 : Int)) 13) = false ∧ (decide (0 < (ln d_.Value))) = true ∧ (cond ((ln d_.Value) == 0) (!y28) false) = false ∧ True → RetB Tryz.prog 144 ⟨[.agg ⟨e0 (gi d_.Value (w64 ((ln d_.Value) - 1))) (bn.s ((w64 ((ln d_.Value) - 1))).toNat)⟩,vU 13]⟩ (vB y31) wz),fun _ hS => fun hg => (by rw [hy31]; exact iR (d9:=(bn.s ((w64 ((ln d_.Value) - 1))).toNat 0)) (gi d_.Value (w64 ((ln d_.Value) - 1))) 13 _ (s0im s0nil (dX ((hS.im 1 rfl).el (ho30 hg.1 hg.2.1 hg.2.2.1)))))⟩] ?_ (he:=by subst hy31 hx32; kernel_rfl)
 refine t_sel [] ?_
 refine t_i2 hm (fun hm => ?_)
 refine t_skip ?_
 refine t_r [2] [vI 0] [] (t_ret ?_)
 obtain rfl:=someE hm
 exact t_n [] rs1

def n9 (c_ : ay) : Bool :=
  cond (c_.aj == 7) true (c_.aj == 8)
theorem ud {ac : Gh} {a7 : Gh} (c_ : ay) (w : World) (hL : S0 F0 [eI a6 c_.az.Value ac,eI ak c_.a8 a7] w ∧ fpl [eI a6 c_.az.Value ac,eI ak c_.a8 a7] = []) : RetB Tryz.prog 151 ⟨[.agg ⟨e4 c_ (gL [ac,a7])⟩]⟩ (vB (n9 c_)) w:=by
 generalize hm : n9 c_ = r
 rw [n9] at hm
 refine f_read hL (Tryz.call151 _) Tryz.func151 Tryz.ntmps151 fun M X w => (t_starts ?_)
 refine t_m [] [0,1] [] [] (fun _ _ H hd => o_box (e4 c_ (gL [ac,a7])) H hd rfl rfl) fun b1 => ?_
 refine t_b 2 [1] [vP b1] [] (t_end ?_)
 refine t_r [2] [vB (cond (c_.aj == 7) true (c_.aj == 8))] [kb 0 0,kgb ((c_.aj == 7) = false ∧ True) 0 0] (t_sel [] (t_ret ?_))
 subst hm
 exact t_n [] rs1

def vx (gf : ay → Int → Option (Int × Bool × Int)) : Prop:=∀ (ac : Gh) (a7 : Gh) (bC : Nat) (M : Av) (c_ : ay) (count : Int) (r : Int × Bool × Int),gf c_ count = some r → ∀ w,S0 M [eI a6 c_.az.Value ac,eI ak c_.a8 a7,eB bC [vI count]] w → Calls Tryz.prog 93 ⟨[.agg ⟨e4 c_ (gL [ac,a7])⟩,vP bC]⟩ w (fun e w' => ∃ v,e = .returned v ∧ v = vW [vI r.1,vB r.2.1] ∧ SH M (fpl [eI a6 c_.az.Value ac,eI ak c_.a8 a7,eB bC [vI count]]) w [eB bC [vI r.2.2]] w')
def lf (m : Nat) (c_ : ay) (p5 : ay → Int → Option (Int × Bool × Int)) : Nat → Int → Int → Int → Option (Int × Int)
  | 0,_,_,_ => none
  | kk + 1,v47,v48,v49 =>
    cond (decide (v48 < (ln c_.a8))) (
    chk (0 ≤ v48 ∧ v48 < ln c_.a8) <|
    Option.bind (p5 (gi c_.a8 v48) v49) fun y64 =>
    cond (!y64.2.1) (
    none) (
    Option.bind (
    cond (!(n9 (gi c_.a8 v48))) (
    some (w64 (y64.1 + 1))) (
    some y64.1)) fun (z71 : Int) =>
    lf m c_ p5 kk (if v47 < z71 then z71 else v47) (w64 (v48 + 1)) y64.2.2)) (
    some (v47,v49))
def kU (m : Nat) : Nat → ay → Int → Option (Int × Bool × Int)
  | 0,_,_ => none
  | k + 1,c_,count =>
    cond (decide (1500 < (w64 (count + 1)))) (
    none) (
    cond (c_.aj == 7) (
    Option.bind (nz m c_.az.Value) fun y18 =>
    lt (cond ((ln c_.a8) == 0) (c_.bA == []) false) fun x21 =>
    lt (cond (cond x21 (c_.Num == 0) false) (y18.2 == 0) false) fun x22 =>
    Option.bind (cond x22 (pI m c_.az) (some default)) fun y23 =>
    some (w64 (y18.1 + 1),cond x22 (y23 == 0) false,w64 (count + 1))) (
    cond (c_.aj == 8) (
    lt (cond ((ln c_.a8) == 0) (dm c_) false) fun x28 =>
    some (1,x28,w64 (count + 1))) (
    Option.bind (
    cond (c_.aj == 3) (
    some (c_.aj == 3)) (
    cond (c_.aj == 1) (
    some (c_.aj == 1)) (
    none))) fun (z31 : Bool) =>
    cond z31 (
    lt (cond (!(dm c_)) true (cond (c_.aj == 3) ((ln c_.a8) != 1) false)) fun x38 =>
    lt (cond x38 true (cond (c_.aj != 3) (decide ((ln c_.a8) < 2)) false)) fun x39 =>
    cond x39 (
    none) (
    Option.bind (
    lf m c_ (kU m k) m 0 0 (w64 (count + 1))) fun (z44 : Int × Int) =>
    some (z44.1,true,z44.2))) (
    none))))
theorem vp (m : Nat) : ∀ (k : Nat),vx (kU m  k):=by
 intro k
 induction k with
 | zero => intro ac a7 bC M c_ count r hm; exact noneE hm
 | succ k ih =>
  intro ac a7 bC M c_ count r hm w hS
  rw [kU] at hm
  have hS0 : SH M (fpl [eI a6 c_.az.Value ac,eI ak c_.a8 a7,eB bC [vI count]]) w [eI a6 c_.az.Value ac,eI ak c_.a8 a7,eB bC [vI count]] w:=hS
  generalize hX : fpl [eI a6 c_.az.Value ac,eI ak c_.a8 a7,eB bC [vI count]] = X at hS0 ⊢
  clear hS hX
  have hS:=hS0
  clear hS0
  refine calls_entryP Tryz.func93 rfl Tryz.ntmps93 rfl fun _ H => ?_
  refine t_in H hS (t_starts ?_)
  refine t_m [] [0,1,2] [1] [vP bC] (fun _ _ H hd => o_box (e4 c_ (gL [ac,a7])) H hd rfl rfl) fun b1 => ?_
  refine t_b 3 [1,2] [vP bC,vP b1] [] (t_end (t_seq (t_starts ?_)))
  refine t_b 5 [1,2,17,18] [vP bC,vP b1,vI (w64 (count + 1)),vP bC] [kb 3 0] ?_
  refine t_m0 [3] [0,1,2] [1,2] [vP bC,vP b1] (fun _ _ H7 hd => o_store [vI (w64 (count + 1))] H7 hd rfl rfl (by kernel_rfl) rfl rfl rfl) (t_end ?_)
  refine t_r [1,2,22] [vP bC,vP b1,vB (decide (1500 < (w64 (count + 1))))] [kb 0 0] ?_
  refine t_i2 hm (fun hm => ?_)
  refine t_skip ?_
  refine t_r [1,2,6] [vP bC,vP b1,vI (ln c_.a8)] [kb 1 6] (t_seq ?_)
  refine t_r [1,2,6,27] [vP bC,vP b1,vI (ln c_.a8),vU c_.aj] [kb 1 0] (t_block ?_)
  refine t_r [1,2,6,27,28] [vP bC,vP b1,vI (ln c_.a8),vU c_.aj,vB (c_.aj == 7)] [] ?_
  refine t_im hm (fun hm => ?c92) (fun hm => ?_)
  case c92 =>
   obtain ⟨y18,hy18,hm⟩:=bindE hm
   refine t_r [2,6,7,8] [vP b1,vI (ln c_.a8),vI y18.1,vI y18.2] [kb 1 4,kr fun _ hS => p9 (af:=ac) m _ _ hy18 _ (s0im s0nil (hS.im 2 rfl))] ?_
   obtain ⟨x21,hx21,hm⟩:=letE hm
   obtain ⟨x22,hx22,hm⟩:=letE hm
   obtain ⟨y23,hy23,hm⟩:=bindE hm
   refine t_r [4,5] [vI (w64 (y18.1 + 1)),vB (cond x22 (y23 == 0) false)] [kgb (((ln c_.a8) == 0) = true ∧ True) 1 1,kgb (x21 = true ∧ True) 1 2,⟨some (.agg ⟨e11 c_.az (gL [ac])⟩),fun wz => (x22 = true ∧ True → V.atN b1 3 (e11 c_.az (gL [ac])) 0 wz),fun _ hS => fun hg => (hS.bk 1 rfl).atD rfl⟩,kgr (x22 = true ∧ True) fun _ hS hg => tE (bn:=ac) m _ _ (bT (hg.1) hy23) _ (s0im s0nil (hS.im 2 rfl))] ?_ (he:=by subst hx21 hx22; kernel_rfl)
   refine t_sel [0] (t_ret ?_)
   obtain rfl:=someE hm
   exact t_n [0] rs2
  refine t_r [1,2,6,27,61] [vP bC,vP b1,vI (ln c_.a8),vU c_.aj,vB (c_.aj == 8)] [] ?_
  refine t_im hm (fun hm => ?c91) (fun hm => ?_)
  case c91 =>
   obtain ⟨x28,hx28,hm⟩:=letE hm
   refine t_r [4,5] [vI 1,vB x28] [⟨some (.agg ⟨e4 c_ (gL [ac,a7])⟩),fun wz => (((ln c_.a8) == 0) = true ∧ True → V.atN b1 0 (e4 c_ (gL [ac,a7])) 0 wz),fun _ hS => fun hg => (hS.bk 1 rfl).atD rfl⟩,⟨some (vB (dm c_)),fun wz => (((ln c_.a8) == 0) = true ∧ True → RetB Tryz.prog 150 ⟨[.agg ⟨e4 c_ (gL [ac,a7])⟩]⟩ (vB (dm c_)) wz),fun _ hS => fun hg => ip (ac:=ac) (a7:=a7) c_ _ (s0im (s0im s0nil (hS.im 3 rfl)) (hS.im 2 rfl))⟩] ?_ (he:=by subst hx28; kernel_rfl)
   refine t_sel [0] (t_ret ?_)
   obtain rfl:=someE hm
   exact t_n [0] rs2
  obtain ⟨z31,hz,hm⟩:=bindE hm
  refine t_cut [1,2,6,69] [vP bC,vP b1,vI (ln c_.a8),vB z31] [eB bC [vI (w64 (count + 1))],eB b1 (e4 c_ (gL [ac,a7])),eI a6 c_.az.Value ac,eI ak c_.a8 a7] ?_ ?_
  ·replace hm:=hz
   refine t_r [1,2,6,27,69] [vP bC,vP b1,vI (ln c_.a8),vU c_.aj,vB (c_.aj == 3)] [] ?_
   refine t_im hm (fun hm => ?c37) (fun hm => ?_)
   case c37 =>
    refine t_skip ?_
    obtain rfl:=someE hm
    exact t_e [1,2,6,69]
   refine t_r [1,2,6,27,69] [vP bC,vP b1,vI (ln c_.a8),vU c_.aj,vB (c_.aj == 1)] [] ?_
   refine t_i1 hm (fun hm => ?_)
   refine t_skip ?_
   obtain rfl:=someE hm
   exact t_e [1,2,6,69]
  ·refine t_if (fun hc => ?_) (fun hc => ?c89)
   case c89 =>
    replace hm:=bF hc hm
    intro _ _ H hS
    exact noneE hm
   replace hm:=bT hc hm
   obtain ⟨x38,hx38,hm⟩:=letE hm
   obtain ⟨x39,hx39,hm⟩:=letE hm
   refine t_r [1,2,93] [vP bC,vP b1,vB x39] [kE 1 7,⟨some (vB (dm c_)),rB 150 [.agg ⟨e4 c_ (gL [ac,a7])⟩] (vB (dm c_)),fun _ hS => (ip (ac:=ac) (a7:=a7) c_ _ (s0im (s0im s0nil (hS.im 3 rfl)) (hS.im 2 rfl)))⟩,kgb ((!(dm c_)) = false ∧ True) 1 0,kgb (x38 = false ∧ True) 1 0] ?_ (he:=by subst hx38 hx39; kernel_rfl)
   refine t_i2 hm (fun hm => ?_)
   refine t_skip ?_
   refine t_r [1,2,9] [vP bC,vP b1,vI 0] [] ?_
   obtain ⟨z44,hz,hm⟩:=bindE hm
   refine t_cut [9] [vI z44.1] [eB bC [vI z44.2],eB b1 (e4 c_ (gL [ac,a7])),eI a6 c_.az.Value ac,eI ak c_.a8 a7] ?_ ?_
   ·replace hm:=hz
    refine t_r [1,9,95,96,97] [vP bC,vI 0,vL a7 c_.a8,vI (ln c_.a8),vI 0] [kb 1 6] (t_block ?_)
    intro _ _ H46 hS
    refine w_loop (fun kk a' w' => ∃ (v47 : Int) (v48 : Int) (v49 : Int),lf m c_ (kU m k) kk v47 v48 v49 = some _ ∧ Fr 119 (fS [1,95,96,9,97] [vP bC,vL a7 c_.a8,vI (ln c_.a8),vI v47,vI v48]) a' ∧ SH M X w [eB bC [vI v49],eB b1 (e4 c_ (gL [ac,a7])),eI a6 c_.az.Value ac,eI ak c_.a8 a7] w') ⟨_,0,0,w64 (count + 1),hm,FrG.keep (ks:=[1,95,96,9,97]) H46 (by kernel_rfl),hS⟩ ?_
    clear hm H46 hS
    rintro kk _ _ ⟨v47,v48,v49,hm,H,hS⟩
    cases kk with
    | zero => exact noneE hm
    | succ kk =>
     rw [lf] at hm
     refine t_in H hS ?_
     refine t_r [1,9,95,96,97,98] [vP bC,vI v47,vL a7 c_.a8,vI (ln c_.a8),vI v48,vB (decide (v48 < (ln c_.a8)))] [] (t_seq ?_)
     refine t_im hm (fun hm => ?_) (fun hm => ?c83)
     case c83 =>
      refine t_exit ?_
      obtain rfl:=someE hm
      exact t_e [9]
     refine t_skip (t_seq (t_block (t_starts ?_)))
     obtain ⟨ho52,hm⟩:=chkE hm
     refine t_b 2 [1,9,95,96,97,100] [vP bC,vI v47,vL a7 c_.a8,vI (ln c_.a8),vI v48,.agg ⟨e4 (gi c_.a8 v48) (a7.s (v48).toNat)⟩] [ki 3 ho52,⟨some (.agg ⟨e4 (gi c_.a8 v48) (a7.s (v48).toNat)⟩),fun wz => V.atN (ab a7.a) (ao a7.a + (v48).toNat * 7) (e4 (gi c_.a8 v48) (a7.s (v48).toNat)) 0 wz,fun _ hS => ((hS.im 3 rfl).atA ho52 0 rfl)⟩] ?_
     refine t_m [] [0,1,2,3] [1,9,95,96,97,100] [vP bC,vI v47,vL a7 c_.a8,vI (ln c_.a8),vI v48,.agg ⟨e4 (gi c_.a8 v48) (a7.s (v48).toNat)⟩] (fun _ _ H54 hd => o_alloc [vU 0,vN,vI 0,vN,vO,vF,vO] (z:=vG [vU 0,vN,vI 0,vN,vO,vF,vO]) hd (by kernel_rfl) rfl) fun b55 => ?_
     refine t_m0 [0] [1,2,3,4] [1,9,11,95,96,97] [vP bC,vI v47,vP b55,vL a7 c_.a8,vI (ln c_.a8),vI v48] (fun _ _ H57 hd => o_store (e4 (gi c_.a8 v48) (a7.s (v48).toNat)) H57 hd rfl rfl (by kernel_rfl) rfl rfl rfl) (t_end (t_starts ?_))
     refine t_b 2 [1,9,11,95,96,97,102,103] [vP bC,vI v47,vP b55,vL a7 c_.a8,vI (ln c_.a8),vI v48,.agg ⟨e4 (gi c_.a8 v48) (a7.s (v48).toNat)⟩,vP bC] [kE 0 7] ?_
     intro _ _ H61 hS
     replace hS:=hS.addIm (eX ((hS.im 4 rfl).el ho52))
     replace hS:=hS.addIm (eY ((hS.im 5 rfl).el ho52))
     obtain ⟨y64,hy64,hm⟩:=bindE hm
     refine t_in H61 hS ?_
     refine t_mv [1,0,3] [0,1,2,4,5,6] [1,9,11,95,96,97] [vP bC,vI v47,vP b55,vL a7 c_.a8,vI (ln c_.a8),vI v48] (fun _ _ H61 hd => o_callx H61 rfl rfl (⟨Tryz.call93 _,ih ((a7.s (v48).toNat 0)) ((a7.s (v48).toNat 1)) (bC) _ _ _ _ hy64 _ hd⟩ : DoesX _ _ _ _ _)) ?_
     refine t_b 8 [1,9,11,12,13,95,96,97] [vP bC,vI v47,vP b55,vI y64.1,vB y64.2.1,vL a7 c_.a8,vI (ln c_.a8),vI v48] [] (t_end (t_sel [0,3,4,5,6] (t_seq ?_)))
     refine t_r [1,9,11,12,95,96,97,108] [vP bC,vI v47,vP b55,vI y64.1,vL a7 c_.a8,vI (ln c_.a8),vI v48,vB (!y64.2.1)] [] ?_
     refine t_i2 hm (fun hm => ?_)
     refine t_skip ?_
     obtain ⟨z71,hz,hm⟩:=bindE hm
     refine t_cut [1,9,95,96,97,12] [vP bC,vI v47,vL a7 c_.a8,vI (ln c_.a8),vI v48,vI z71] [eB bC [vI y64.2.2],eB b55 (e4 (gi c_.a8 v48) (a7.s (v48).toNat)),eB b1 (e4 c_ (gL [ac,a7])),eI a6 c_.az.Value ac,eI ak c_.a8 a7] ?_ ?_
     ·replace hm:=hz
      refine t_r [1,9,12,95,96,97,111] [vP bC,vI v47,vI y64.1,vL a7 c_.a8,vI (ln c_.a8),vI v48,vB (!(n9 (gi c_.a8 v48)))] [kE 1 7,kr fun _ hS => ud (ac:=(a7.s (v48).toNat 0)) (a7:=(a7.s (v48).toNat 1)) (gi c_.a8 v48) _ (s0im (s0im s0nil (eY ((hS.im 4 rfl).el ho52))) (eX ((hS.im 4 rfl).el ho52)))] ?_
      refine t_im hm (fun hm => ?_) (fun hm => ?c76)
      case c76 =>
       refine t_skip ?_
       obtain rfl:=someE hm
       exact t_e [1,9,95,96,97,12]
      refine t_w [1,9,12,95,96,97] [vP bC,vI v47,vI (w64 (y64.1 + 1)),vL a7 c_.a8,vI (ln c_.a8),vI v48] [] ?_
      obtain rfl:=someE hm
      exact t_e [1,9,95,96,97,12]
     ·refine t_sel [0,2,3,4] ?_
      refine t_w [1,9,95,96,97] [vP bC,vI (if v47 < z71 then z71 else v47),vL a7 c_.a8,vI (ln c_.a8),vI v48] [] ?_
      refine t_w [1,9,95,96,97] [vP bC,vI (if v47 < z71 then z71 else v47),vL a7 c_.a8,vI (ln c_.a8),vI (w64 (v48 + 1))] [] ?_
      exact fun _ _ H80 hS => ⟨_,Nat.lt_succ_self _,if v47 < z71 then z71 else v47,w64 (v48 + 1),y64.2.2,hm,FrG.keep (ks:=[1,95,96,9,97]) H80 (by kernel_rfl),hS⟩
   ·refine t_sel [0] ?_
    refine t_r [4,5] [vI z44.1,vT] [] (t_ret ?_)
    obtain rfl:=someE hm
    exact t_n [0] rs2
def tW (m : Nat) (c_ : ay) (count : Int) : Option (Int × Bool × Int):=kU m  m c_ count
theorem un {ac : Gh} {a7 : Gh} {bC : Nat} (m : Nat) (c_ : ay) (count : Int) (r : Int × Bool × Int) (hm : tW m c_ count = some r) (M : Av) (w : World) (hS : S0 M [eI a6 c_.az.Value ac,eI ak c_.a8 a7,eB bC [vI count]] w) : DoesX Tryz.prog 93 ⟨[.agg ⟨e4 c_ (gL [ac,a7])⟩,vP bC]⟩ w (fun v w' => v = vW [vI r.1,vB r.2.1] ∧ SH M (fpl [eI a6 c_.az.Value ac,eI ak c_.a8 a7,eB bC [vI count]]) w [eB bC [vI r.2.2]] w'):=⟨Tryz.call93 _,vp m   m ac a7 bC M c_ count r hm w hS⟩

def fk (m : Nat) (c_ : ay) : Option (Int) :=
  Option.bind (tW m c_ 0) fun y13 =>
  lt (cond (!y13.2.1) true (decide (16 < y13.1))) fun x18 =>
  cond x18 (
  none) (
  some 0)
theorem gJ {ac : Gh} {a7 : Gh} (m : Nat) (c_ : ay) (r : Int) (hm : fk m c_ = some r) (w : World) (hL : S0 F0 [eI a6 c_.az.Value ac,eI ak c_.a8 a7] w ∧ fpl [eI a6 c_.az.Value ac,eI ak c_.a8 a7] = []) : RetB Tryz.prog 53 ⟨[.agg ⟨e4 c_ (gL [ac,a7])⟩]⟩ (vI r) w:=by
 rw [fk] at hm
 refine f_read hL (Tryz.call53 _) Tryz.func53 Tryz.ntmps53 fun M X w => (t_starts ?_)
 refine t_m [] [0,1] [] [] (fun _ _ H hd => o_box (e4 c_ (gL [ac,a7])) H hd rfl rfl) fun b1 => ?_
 refine t_b 2 [1] [vP b1] [] (t_end (t_starts ?_))
 refine t_m [] [0,1,2] [1] [vP b1] (fun _ _ H5 hd => o_alloc [vI 0] (z:=vI 0) hd (by kernel_rfl) rfl) fun b6 => ?_
 refine t_m0 [0] [1,2,3] [1,3] [vP b1,vP b6] (fun _ _ H8 hd => o_store [vI 0] H8 hd rfl rfl (by kernel_rfl) rfl rfl rfl) (t_end (t_seq (t_starts ?_)))
 refine t_b 1 [3,7] [vP b6,.agg ⟨e4 c_ (gL [ac,a7])⟩] [kE 1 7] ?_
 obtain ⟨y13,hy13,hm⟩:=bindE hm
 refine t_mv [2,3,0] [1,2,3] [] [] (fun _ _ H12 hd => o_callx H12 rfl rfl (un (ac:=ac) (a7:=a7) (bC:=b6) m _ _ _ hy13 _ _ hd)) ?_
 refine t_b 7 [4,5] [vI y13.1,vB y13.2.1] [] (t_end (t_sel [] ?_))
 obtain ⟨x18,hx18,hm⟩:=letE hm
 refine t_r [16] [vB x18] [] ?_ (he:=by subst hx18; kernel_rfl)
 refine t_i2 hm (fun hm => ?_)
 refine t_skip ?_
 refine t_r [2] [vI 0] [] (t_ret ?_)
 obtain rfl:=someE hm
 exact t_n [] rs1

def uu (gf : (List aS) → Option (eu)) : Prop:=∀ (aa : Gh) (M : Av) (l_ : List aS) (r : eu),gf l_ = some r → ∀ w,S0 M [eI aJ l_ aa] w → Calls Tryz.prog 52 ⟨[vL aa l_]⟩ w (fun e w' => ∃ v,e = .returned v ∧ v = .agg ⟨e15 r⟩ ∧ SH M (fpl [eI aJ l_ aa]) w [] w')
def mX (m : Nat) (l_ : List aS) (v10 : Int) (y25 : eu) (y52 : Int) : Nat → Bool → Int → Option (Int × Bool × Int)
  | 0,_,_ => none
  | kk + 1,v64,v65 =>
    cond (decide (v65 < (ln ((gi l_ v10).bl)))) (
    none) (
    some (y52,v64,y25.depth))
def kL (m : Nat) (l_ : List aS) (nW : (List aS) → Option (eu)) : Nat → Int → Int → Int → Bool → Option (Int × Int × Bool)
  | 0,_,_,_,_ => none
  | kk + 1,v10,v11,v12,v13 =>
    cond (decide (v10 < (ln l_))) (
    Option.bind (
    chk (0 ≤ v10 ∧ v10 < ln l_) <|
    Option.bind (nW ((gi l_ v10).aF)) fun y25 =>
    lt (w64 ((ln ((gi l_ v10).aC)) + (ln ((gi l_ v10).bl)))) fun x39 =>
    Option.bind (eo m ((gi l_ v10).aQ)) fun y42 =>
    Option.bind (
    cond (((gi l_ v10).aj) == 1) (
    Option.bind (m6 m ((gi l_ v10).aC)) fun y52 =>
    Option.bind (cond (cond y25.bad true y42) (some default) (mW m ((gi l_ v10).aC))) fun y55 =>
    lt (cond (cond y25.bad true y42) true (y55 != 0)) fun x56 =>
    lt (cond x56 true (decide (32 < (ln ((gi l_ v10).bl))))) fun x57 =>
    lt (cond x57 true (!(iV ((gi l_ v10).aB)))) fun x58 =>
    lt (cond x58 true (decide (0 < (w64 ((ln ((gi l_ v10).aQ)) + (ln ((gi l_ v10).aF))))))) fun x59 =>
    mX m l_ v10 y25 y52 m x59 0) (
    cond (((gi l_ v10).aj) == 2) (
    Option.bind (rz m ((gi l_ v10).aB)) fun y72 =>
    lt (cond (cond y25.bad true y42) true (decide (0 < x39))) fun x75 =>
    lt (cond x75 true (decide (0 < (ln ((gi l_ v10).aQ))))) fun x76 =>
    Option.bind (cond x76 (some default) (iJ m ((gi l_ v10).aB))) fun y77 =>
    some (y72,cond x76 true (y77 != 0),y25.depth)) (
    cond (((gi l_ v10).aj) == 3) (
    Option.bind (s0 m ((gi l_ v10).aB)) fun y82 =>
    lt (cond (cond y25.bad true y42) true (decide (0 < x39))) fun x85 =>
    lt (cond x85 true (decide (0 < (ln ((gi l_ v10).aQ))))) fun x86 =>
    Option.bind (cond x86 (some default) (fk m ((gi l_ v10).aB))) fun y87 =>
    some (y82,cond x86 true (y87 != 0),y25.depth)) (
    cond (((gi l_ v10).aj) == 4) (
    lt (cond (cond y25.bad true y42) true (decide (0 < x39))) fun x92 =>
    lt (cond x92 true (decide (1 < (ln ((gi l_ v10).aQ))))) fun x93 =>
    lt (cond x93 true (!(iV ((gi l_ v10).aB)))) fun x94 =>
    some (0,x94,y25.depth)) (
    cond (((gi l_ v10).aj) == 5) (
    lt (cond (cond y25.bad true y42) true (decide (0 < x39))) fun x105 =>
    lt (cond x105 true (decide ((ln ((gi l_ v10).aQ)) < 1))) fun x106 =>
    lt (cond x106 true (decide (64 < (ln ((gi l_ v10).aQ))))) fun x107 =>
    lt (cond x107 true (decide (0 < (ln ((gi l_ v10).aF))))) fun x108 =>
    lt (cond x108 true (!(iV ((gi l_ v10).aB)))) fun x109 =>
    some (0,x109,(-1))) (
    some (0,true,y25.depth))))))) fun (z47 : Int × Bool × Int) =>
    lt (if (if v12 < w64 (z47.2.2 + 1) then w64 (z47.2.2 + 1) else v12) < z47.1 then z47.1 else (if v12 < w64 (z47.2.2 + 1) then w64 (z47.2.2 + 1) else v12)) fun x119 =>
    some (w64 (v11 + (w64 (y25.rules + 1))),x119,cond v13 true z47.2.1)) fun (z16 : Int × Int × Bool) =>
    kL m l_ nW kk (w64 (v10 + 1)) z16.1 z16.2.1 z16.2.2) (
    some (v11,v12,v13))
def jE (m : Nat) : Nat → (List aS) → Option (eu)
  | 0,_ => none
  | k + 1,l_ =>
    Option.bind (
    kL m l_ (jE m k) m 0 0 0 false) fun (z7 : Int × Int × Bool) =>
    some (eu.mk z7.1 z7.2.1 z7.2.2)
theorem uA (m : Nat) : ∀ (k : Nat),uu (jE m  k):=by
 intro k
 induction k with
 | zero => intro aa M l_ r hm; exact noneE hm
 | succ k ih =>
  intro aa M l_ r hm w hS
  rw [jE] at hm
  have hS0 : SH M (fpl [eI aJ l_ aa]) w [eI aJ l_ aa] w:=hS
  generalize hX : fpl [eI aJ l_ aa] = X at hS0 ⊢
  clear hS hX
  have hS:=hS0
  clear hS0
  refine calls_entryP Tryz.func52 rfl Tryz.ntmps52 rfl fun _ H => ?_
  refine t_in H hS (t_starts ?_)
  refine t_m [] [0] [0] [vL aa l_] (fun _ _ H hd => o_alloc [vI 0,vI 0,vF] (z:=vG [vI 0,vI 0,vF]) hd (by kernel_rfl) rfl) fun b1 => (t_end (t_starts ?_))
  refine t_m [] [0,1] [0,2] [vL aa l_,vP b1] (fun _ _ H3 hd => o_alloc [vI 0,vI 0,vF] (z:=vG [vI 0,vI 0,vF]) hd (by kernel_rfl) rfl) fun b4 => (t_end ?_)
  obtain ⟨z7,hz,hm⟩:=bindE hm
  refine t_cut [2,3] [vP b1,vP b4] [eB b4 [vI z7.1,vI z7.2.1,vB z7.2.2],eB b1 [vI 0,vI 0,vF],eI aJ l_ aa] ?_ ?_
  ·replace hm:=hz
   refine t_r [2,3,16,17,18] [vP b1,vP b4,vL aa l_,vI (ln l_),vI 0] [] (t_block ?_)
   intro _ _ H9 hS
   refine w_loop (fun kk a' w' => ∃ (v10 : Int) (v11 : Int) (v12 : Int) (v13 : Bool),kL m l_ (jE m k) kk v10 v11 v12 v13 = some _ ∧ Fr 219 (fS [2,3,16,17,18] [vP b1,vP b4,vL aa l_,vI (ln l_),vI v10]) a' ∧ SH M X w [eB b4 [vI v11,vI v12,vB v13],eB b1 [vI 0,vI 0,vF],eI aJ l_ aa] w') ⟨_,0,0,0,false,hm,FrG.keep (ks:=[2,3,16,17,18]) H9 (by kernel_rfl),hS⟩ ?_
   clear hm H9 hS
   rintro kk _ _ ⟨v10,v11,v12,v13,hm,H,hS⟩
   cases kk with
   | zero => exact noneE hm
   | succ kk =>
    rw [kL] at hm
    refine t_in H hS ?_
    refine t_r [2,3,16,17,18,19] [vP b1,vP b4,vL aa l_,vI (ln l_),vI v10,vB (decide (v10 < (ln l_)))] [] (t_seq ?_)
    refine t_im hm (fun hm => ?_) (fun hm => ?c132)
    case c132 =>
     refine t_exit ?_
     obtain rfl:=someE hm
     exact t_e [2,3]
    refine t_skip ?_
    obtain ⟨z16,hz,hm⟩:=bindE hm
    refine t_cut [2,3,16,17,18] [vP b1,vP b4,vL aa l_,vI (ln l_),vI v10] [eB b4 [vI z16.1,vI z16.2.1,vB z16.2.2],eB b1 [vI 0,vI 0,vF],eI aJ l_ aa] ?_ ?_
    ·replace hm:=hz
     refine t_block (t_starts ?_)
     obtain ⟨ho17,hm⟩:=chkE hm
     refine t_b 2 [2,3,16,17,18,21] [vP b1,vP b4,vL aa l_,vI (ln l_),vI v10,.agg ⟨e5 (gi l_ v10) (aa.s (v10).toNat)⟩] [ki 2 ho17,⟨some (.agg ⟨e5 (gi l_ v10) (aa.s (v10).toNat)⟩),fun wz => V.atN (ab aa.a) (ao aa.a + (v10).toNat * 12) (e5 (gi l_ v10) (aa.s (v10).toNat)) 0 wz,fun _ hS => ((hS.im 2 rfl).atA ho17 0 rfl)⟩] ?_
     refine t_m [] [0,1,2] [2,3,16,17,18,21] [vP b1,vP b4,vL aa l_,vI (ln l_),vI v10,.agg ⟨e5 (gi l_ v10) (aa.s (v10).toNat)⟩] (fun _ _ H19 hd => o_alloc [vU 0,vO,vO,vU 0,vN,vI 0,vN,vO,vF,vO,vO,vO] (z:=vG [vU 0,vO,vO,vU 0,vN,vI 0,vN,vO,vF,vO,vO,vO]) hd (by kernel_rfl) rfl) fun b20 => ?_
     refine t_m0 [0] [1,2,3] [2,3,5,16,17,18] [vP b1,vP b4,vP b20,vL aa l_,vI (ln l_),vI v10] (fun _ _ H22 hd => o_store (e5 (gi l_ v10) (aa.s (v10).toNat)) H22 hd rfl rfl (by kernel_rfl) rfl rfl rfl) (t_end (t_starts ?_))
     obtain ⟨y25,hy25,hm⟩:=bindE hm
     refine t_b 3 [2,3,5,16,17,18,24] [vP b1,vP b4,vP b20,vL aa l_,vI (ln l_),vI v10,.agg ⟨e15 y25⟩] [kb 0 11,kr fun _ hS => retB_of (s0im s0nil (jV ((hS.im 3 rfl).el ho17))) (Tryz.call52 _) (fun w' h' => ih ((aa.s (v10).toNat 5)) F0 _ _ hy25 w' h')] ?_
     refine t_m [] [0,1,2,3] [2,3,5,16,17,18,24] [vP b1,vP b4,vP b20,vL aa l_,vI (ln l_),vI v10,.agg ⟨e15 y25⟩] (fun _ _ H27 hd => o_alloc [vI 0,vI 0,vF] (z:=vG [vI 0,vI 0,vF]) hd (by kernel_rfl) rfl) fun b28 => ?_
     refine t_m0 [0] [1,2,3,4] [2,3,5,6,16,17,18] [vP b1,vP b4,vP b20,vP b28,vL aa l_,vI (ln l_),vI v10] (fun _ _ H30 hd => o_store (e15 y25) H30 hd rfl rfl (by kernel_rfl) rfl rfl rfl) (t_end ?_)
     refine t_r [2,3,5,6,7,16,17,18] [vP b1,vP b4,vP b20,vP b28,vI 0,vL aa l_,vI (ln l_),vI v10] [] (t_starts ?_)
     refine t_b 7 [2,3,5,6,7,16,17,18,30,31] [vP b1,vP b4,vP b20,vP b28,vI 0,vL aa l_,vI (ln l_),vI v10,vI (w64 (v11 + (w64 (y25.rules + 1)))),vP b4] [kb 2 0,kb 0 0] ?_
     refine t_m0 [2] [0,1,3,4] [2,3,5,6,7,16,17,18] [vP b1,vP b4,vP b20,vP b28,vI 0,vL aa l_,vI (ln l_),vI v10] (fun _ _ H36 hd => o_store [vI (w64 (v11 + (w64 (y25.rules + 1)))),vI v12,vB v13] H36 hd rfl rfl (by kernel_rfl) rfl rfl rfl) (t_end ?_)
     obtain ⟨x39,hx39,hm⟩:=letE hm
     refine t_r [2,3,5,6,7,8,16,17,18] [vP b1,vP b4,vP b20,vP b28,vI 0,vB (decide (0 < x39)),vL aa l_,vI (ln l_),vI v10] [kb 2 1,kb 2 2] ?_ (he:=by subst hx39; kernel_rfl)
     obtain ⟨y42,hy42,hm⟩:=bindE hm
     refine t_r [2,3,5,6,7,8,9,16,17,18] [vP b1,vP b4,vP b20,vP b28,vI 0,vB (decide (0 < x39)),vB y42,vL aa l_,vI (ln l_),vI v10] [kb 2 10,kr fun _ hS => ir (g_s:=(aa.s (v10).toNat 4)) m _ _ hy42 _ (s0im s0nil (fC ((hS.im 4 rfl).el ho17)))] ?_
     refine t_r [2,3,5,6,7,8,10,16,17,18] [vP b1,vP b4,vP b20,vP b28,vI 0,vB (decide (0 < x39)),vB (cond y25.bad true y42),vL aa l_,vI (ln l_),vI v10] [kb 1 2] ?_
     obtain ⟨z47,hz,hm⟩:=bindE hm
     refine t_cut [2,3,6,16,17,18,7,10] [vP b1,vP b4,vP b28,vL aa l_,vI (ln l_),vI v10,vI z47.1,vB z47.2.1] [eB b4 [vI (w64 (v11 + (w64 (y25.rules + 1)))),vI v12,vB v13],eB b28 [vI y25.rules,vI z47.2.2,vB y25.bad],eB b20 (e5 (gi l_ v10) (aa.s (v10).toNat)),eB b1 [vI 0,vI 0,vF],eI aJ l_ aa] ?_ ?_
     ·replace hm:=hz
      refine t_r [2,3,5,6,7,8,10,16,17,18,49] [vP b1,vP b4,vP b20,vP b28,vI 0,vB (decide (0 < x39)),vB (cond y25.bad true y42),vL aa l_,vI (ln l_),vI v10,vU ((gi l_ v10).aj)] [kb 2 0] (t_block ?_)
      refine t_r [2,3,5,6,7,8,10,16,17,18,49,50] [vP b1,vP b4,vP b20,vP b28,vI 0,vB (decide (0 < x39)),vB (cond y25.bad true y42),vL aa l_,vI (ln l_),vI v10,vU ((gi l_ v10).aj),vB (((gi l_ v10).aj) == 1)] [] ?_
      refine t_im hm (fun hm => ?c118) (fun hm => ?_)
      case c118 =>
       obtain ⟨y52,hy52,hm⟩:=bindE hm
       refine t_r [2,3,5,6,7,10,16,17,18] [vP b1,vP b4,vP b20,vP b28,vI y52,vB (cond y25.bad true y42),vL aa l_,vI (ln l_),vI v10] [kb 2 1,kr fun _ hS => qb (aa:=(aa.s (v10).toNat 0)) m _ _ hy52 _ (s0im s0nil (jW ((hS.im 4 rfl).el ho17)))] ?_
       obtain ⟨y55,hy55,hm⟩:=bindE hm
       obtain ⟨x56,hx56,hm⟩:=letE hm
       obtain ⟨x57,hx57,hm⟩:=letE hm
       obtain ⟨x58,hx58,hm⟩:=letE hm
       obtain ⟨x59,hx59,hm⟩:=letE hm
       refine t_r [2,3,5,6,7,10,16,17,18] [vP b1,vP b4,vP b20,vP b28,vI y52,vB x59,vL aa l_,vI (ln l_),vI v10] [kgb ((cond y25.bad true y42) = false ∧ True) 2 1,kgr ((cond y25.bad true y42) = false ∧ True) fun _ hS hg => qX (aa:=(aa.s (v10).toNat 0)) m _ _ (bF (hg.1) hy55) _ (s0im s0nil (jW ((hS.im 4 rfl).el ho17))),kgb (x56 = false ∧ True) 2 2,⟨some (.agg ⟨e4 ((gi l_ v10).aB) (gL [aa.s (v10).toNat 2,aa.s (v10).toNat 3])⟩),fun wz => (x57 = false ∧ True → V.atN b20 3 (e4 ((gi l_ v10).aB) (gL [aa.s (v10).toNat 2,aa.s (v10).toNat 3])) 0 wz),fun _ hS => fun hg => (hS.bk 2 rfl).atD rfl⟩,kgr (x57 = false ∧ True) fun _ hS hg => ma (ac:=(aa.s (v10).toNat 2)) (a7:=(aa.s (v10).toNat 3)) ((gi l_ v10).aB) _ (s0im (s0im s0nil (fx ((hS.im 4 rfl).el ho17))) (fA ((hS.im 4 rfl).el ho17))),kgb (x58 = false ∧ True) 2 10,kgb (x58 = false ∧ True) 2 11] ?_ (he:=by subst hx56 hx57 hx58 hx59; kernel_rfl)
       refine t_r [2,3,6,7,10,16,17,18,85,86,87] [vP b1,vP b4,vP b28,vI y52,vB x59,vL aa l_,vI (ln l_),vI v10,.slice (aa.s (v10).toNat 1).a (((gi l_ v10).bl).length) (aa.s (v10).toNat 1).c,vI (ln ((gi l_ v10).bl)),vI 0] [kb 2 2] (t_block ?_)
       intro _ _ H63 hS
       refine w_loop (fun kk a' w' => ∃ (v64 : Bool) (v65 : Int),mX m l_ v10 y25 y52 kk v64 v65 = some _ ∧ Fr 219 (fS [2,3,6,7,16,17,18,85,86,10,87] [vP b1,vP b4,vP b28,vI y52,vL aa l_,vI (ln l_),vI v10,.slice (aa.s (v10).toNat 1).a (((gi l_ v10).bl).length) (aa.s (v10).toNat 1).c,vI (ln ((gi l_ v10).bl)),vB v64,vI v65]) a' ∧ SH M X w [eB b4 [vI (w64 (v11 + (w64 (y25.rules + 1)))),vI v12,vB v13],eB b28 (e15 y25),eB b20 (e5 (gi l_ v10) (aa.s (v10).toNat)),eB b1 [vI 0,vI 0,vF],eI aJ l_ aa] w') ⟨_,x59,0,hm,FrG.keep (ks:=[2,3,6,7,16,17,18,85,86,10,87]) H63 (by kernel_rfl),hS⟩ ?_
       clear hm H63 hS
       rintro kk _ _ ⟨v64,v65,hm,H,hS⟩
       cases kk with
       | zero => exact noneE hm
       | succ kk =>
        rw [mX] at hm
        refine t_in H hS ?_
        refine t_r [2,3,6,7,10,16,17,18,85,86,87,88] [vP b1,vP b4,vP b28,vI y52,vB v64,vL aa l_,vI (ln l_),vI v10,.slice (aa.s (v10).toNat 1).a (((gi l_ v10).bl).length) (aa.s (v10).toNat 1).c,vI (ln ((gi l_ v10).bl)),vI v65,vB (decide (v65 < (ln ((gi l_ v10).bl))))] [] (t_seq ?_)
        refine t_im hm (fun hm => ?_) (fun hm => ?c68)
        case c68 =>
         refine t_exit ?_
         obtain rfl:=someE hm
         exact t_e [2,3,6,16,17,18,7,10]
        refine t_skip (t_seq (t_block ?_))
        intro _ _ H67 hS
        exact noneE hm
      refine t_r [2,3,5,6,7,8,10,16,17,18,49,113] [vP b1,vP b4,vP b20,vP b28,vI 0,vB (decide (0 < x39)),vB (cond y25.bad true y42),vL aa l_,vI (ln l_),vI v10,vU ((gi l_ v10).aj),vB (((gi l_ v10).aj) == 2)] [] ?_
      refine t_im hm (fun hm => ?c117) (fun hm => ?_)
      case c117 =>
       obtain ⟨y72,hy72,hm⟩:=bindE hm
       refine t_r [2,3,5,6,7,8,10,16,17,18] [vP b1,vP b4,vP b20,vP b28,vI y72,vB (decide (0 < x39)),vB (cond y25.bad true y42),vL aa l_,vI (ln l_),vI v10] [⟨some (.agg ⟨e4 ((gi l_ v10).aB) (gL [aa.s (v10).toNat 2,aa.s (v10).toNat 3])⟩),fun wz => V.atN b20 3 (e4 ((gi l_ v10).aB) (gL [aa.s (v10).toNat 2,aa.s (v10).toNat 3])) 0 wz,fun _ hS => ((hS.bk 2 rfl).atD rfl)⟩,kr fun _ hS => sr (ac:=(aa.s (v10).toNat 2)) (a7:=(aa.s (v10).toNat 3)) m _ _ hy72 _ (s0im (s0im s0nil (fx ((hS.im 4 rfl).el ho17))) (fA ((hS.im 4 rfl).el ho17)))] ?_
       obtain ⟨x75,hx75,hm⟩:=letE hm
       obtain ⟨x76,hx76,hm⟩:=letE hm
       obtain ⟨y77,hy77,hm⟩:=bindE hm
       refine t_w [2,3,6,7,10,16,17,18] [vP b1,vP b4,vP b28,vI y72,vB (cond x76 true (y77 != 0)),vL aa l_,vI (ln l_),vI v10] [kgb (x75 = false ∧ True) 2 10,⟨some (.agg ⟨e4 ((gi l_ v10).aB) (gL [aa.s (v10).toNat 2,aa.s (v10).toNat 3])⟩),fun wz => (x76 = false ∧ True → V.atN b20 3 (e4 ((gi l_ v10).aB) (gL [aa.s (v10).toNat 2,aa.s (v10).toNat 3])) 0 wz),fun _ hS => fun hg => (hS.bk 2 rfl).atD rfl⟩,kgr (x76 = false ∧ True) fun _ hS hg => lV (ac:=(aa.s (v10).toNat 2)) (a7:=(aa.s (v10).toNat 3)) m _ _ (bF (hg.1) hy77) _ (s0im (s0im s0nil (fx ((hS.im 4 rfl).el ho17))) (fA ((hS.im 4 rfl).el ho17)))] ?_ (he:=by subst hx75 hx76; kernel_rfl)
       obtain rfl:=someE hm
       exact t_e [2,3,6,16,17,18,7,10]
      refine t_r [2,3,5,6,7,8,10,16,17,18,49,134] [vP b1,vP b4,vP b20,vP b28,vI 0,vB (decide (0 < x39)),vB (cond y25.bad true y42),vL aa l_,vI (ln l_),vI v10,vU ((gi l_ v10).aj),vB (((gi l_ v10).aj) == 3)] [] ?_
      refine t_im hm (fun hm => ?c116) (fun hm => ?_)
      case c116 =>
       obtain ⟨y82,hy82,hm⟩:=bindE hm
       refine t_r [2,3,5,6,7,8,10,16,17,18] [vP b1,vP b4,vP b20,vP b28,vI y82,vB (decide (0 < x39)),vB (cond y25.bad true y42),vL aa l_,vI (ln l_),vI v10] [⟨some (.agg ⟨e4 ((gi l_ v10).aB) (gL [aa.s (v10).toNat 2,aa.s (v10).toNat 3])⟩),fun wz => V.atN b20 3 (e4 ((gi l_ v10).aB) (gL [aa.s (v10).toNat 2,aa.s (v10).toNat 3])) 0 wz,fun _ hS => ((hS.bk 2 rfl).atD rfl)⟩,kr fun _ hS => sX (ac:=(aa.s (v10).toNat 2)) (a7:=(aa.s (v10).toNat 3)) m _ _ hy82 _ (s0im (s0im s0nil (fx ((hS.im 4 rfl).el ho17))) (fA ((hS.im 4 rfl).el ho17)))] ?_
       obtain ⟨x85,hx85,hm⟩:=letE hm
       obtain ⟨x86,hx86,hm⟩:=letE hm
       obtain ⟨y87,hy87,hm⟩:=bindE hm
       refine t_w [2,3,6,7,10,16,17,18] [vP b1,vP b4,vP b28,vI y82,vB (cond x86 true (y87 != 0)),vL aa l_,vI (ln l_),vI v10] [kgb (x85 = false ∧ True) 2 10,⟨some (.agg ⟨e4 ((gi l_ v10).aB) (gL [aa.s (v10).toNat 2,aa.s (v10).toNat 3])⟩),fun wz => (x86 = false ∧ True → V.atN b20 3 (e4 ((gi l_ v10).aB) (gL [aa.s (v10).toNat 2,aa.s (v10).toNat 3])) 0 wz),fun _ hS => fun hg => (hS.bk 2 rfl).atD rfl⟩,kgr (x86 = false ∧ True) fun _ hS hg => gJ (ac:=(aa.s (v10).toNat 2)) (a7:=(aa.s (v10).toNat 3)) m _ _ (bF (hg.1) hy87) _ (s0im (s0im s0nil (fx ((hS.im 4 rfl).el ho17))) (fA ((hS.im 4 rfl).el ho17)))] ?_ (he:=by subst hx85 hx86; kernel_rfl)
       obtain rfl:=someE hm
       exact t_e [2,3,6,16,17,18,7,10]
      refine t_r [2,3,5,6,7,8,10,16,17,18,49,155] [vP b1,vP b4,vP b20,vP b28,vI 0,vB (decide (0 < x39)),vB (cond y25.bad true y42),vL aa l_,vI (ln l_),vI v10,vU ((gi l_ v10).aj),vB (((gi l_ v10).aj) == 4)] [] ?_
      refine t_im hm (fun hm => ?c115) (fun hm => ?_)
      case c115 =>
       obtain ⟨x92,hx92,hm⟩:=letE hm
       obtain ⟨x93,hx93,hm⟩:=letE hm
       obtain ⟨x94,hx94,hm⟩:=letE hm
       refine t_w [2,3,6,7,10,16,17,18] [vP b1,vP b4,vP b28,vI 0,vB x94,vL aa l_,vI (ln l_),vI v10] [kgb (x92 = false ∧ True) 2 10,⟨some (.agg ⟨e4 ((gi l_ v10).aB) (gL [aa.s (v10).toNat 2,aa.s (v10).toNat 3])⟩),fun wz => (x93 = false ∧ True → V.atN b20 3 (e4 ((gi l_ v10).aB) (gL [aa.s (v10).toNat 2,aa.s (v10).toNat 3])) 0 wz),fun _ hS => fun hg => (hS.bk 2 rfl).atD rfl⟩,kgr (x93 = false ∧ True) fun _ hS hg => ma (ac:=(aa.s (v10).toNat 2)) (a7:=(aa.s (v10).toNat 3)) ((gi l_ v10).aB) _ (s0im (s0im s0nil (fx ((hS.im 4 rfl).el ho17))) (fA ((hS.im 4 rfl).el ho17)))] ?_ (he:=by subst hx92 hx93 hx94; kernel_rfl)
       obtain rfl:=someE hm
       exact t_e [2,3,6,16,17,18,7,10]
      refine t_r [2,3,5,6,7,8,10,16,17,18,173] [vP b1,vP b4,vP b20,vP b28,vI 0,vB (decide (0 < x39)),vB (cond y25.bad true y42),vL aa l_,vI (ln l_),vI v10,vB (((gi l_ v10).aj) == 5)] [] ?_
      refine t_im hm (fun hm => ?_) (fun hm => ?c114)
      case c114 =>
       refine t_w [2,3,6,7,10,16,17,18] [vP b1,vP b4,vP b28,vI 0,vT,vL aa l_,vI (ln l_),vI v10] [] ?_
       obtain rfl:=someE hm
       exact t_e [2,3,6,16,17,18,7,10]
      refine t_starts ?_
      refine t_b 1 [2,3,5,6,7,8,10,16,17,18,175] [vP b1,vP b4,vP b20,vP b28,vI 0,vB (decide (0 < x39)),vB (cond y25.bad true y42),vL aa l_,vI (ln l_),vI v10,vA b28 1] [] ?_
      refine t_m0 [1] [0,2,3,4] [2,3,5,6,7,8,10,16,17,18] [vP b1,vP b4,vP b20,vP b28,vI 0,vB (decide (0 < x39)),vB (cond y25.bad true y42),vL aa l_,vI (ln l_),vI v10] (fun _ _ H100 hd => o_store [vI y25.rules,vI (-1),vB y25.bad] H100 hd rfl rfl (by kernel_rfl) rfl rfl rfl) (t_end ?_)
      refine t_r [2,3,5,6,7,8,10,15,16,17,18] [vP b1,vP b4,vP b20,vP b28,vI 0,vB (decide (0 < x39)),vB (cond y25.bad true y42),vI (ln ((gi l_ v10).aQ)),vL aa l_,vI (ln l_),vI v10] [kb 2 10] ?_
      obtain ⟨x105,hx105,hm⟩:=letE hm
      obtain ⟨x106,hx106,hm⟩:=letE hm
      obtain ⟨x107,hx107,hm⟩:=letE hm
      obtain ⟨x108,hx108,hm⟩:=letE hm
      obtain ⟨x109,hx109,hm⟩:=letE hm
      refine t_w [2,3,6,7,10,16,17,18] [vP b1,vP b4,vP b28,vI 0,vB x109,vL aa l_,vI (ln l_),vI v10] [kgb (x107 = false ∧ True) 2 11,⟨some (.agg ⟨e4 ((gi l_ v10).aB) (gL [aa.s (v10).toNat 2,aa.s (v10).toNat 3])⟩),fun wz => (x108 = false ∧ True → V.atN b20 3 (e4 ((gi l_ v10).aB) (gL [aa.s (v10).toNat 2,aa.s (v10).toNat 3])) 0 wz),fun _ hS => fun hg => (hS.bk 2 rfl).atD rfl⟩,kgr (x108 = false ∧ True) fun _ hS hg => ma (ac:=(aa.s (v10).toNat 2)) (a7:=(aa.s (v10).toNat 3)) ((gi l_ v10).aB) _ (s0im (s0im s0nil (fx ((hS.im 4 rfl).el ho17))) (fA ((hS.im 4 rfl).el ho17)))] ?_ (he:=by subst hx105 hx106 hx107 hx108 hx109; kernel_rfl)
      obtain rfl:=someE hm
      refine t_sel [1,0,2,3,4] ?_
      exact t_e [2,3,6,16,17,18,7,10]
     ·refine t_sel [0,1,3,4] (t_starts ?_)
      obtain ⟨x119,hx119,hm⟩:=letE hm
      refine t_b 8 [2,3,10,16,17,18,209,210] [vP b1,vP b4,vB z47.2.1,vL aa l_,vI (ln l_),vI v10,vI x119,vA b4 1] [kb 0 1,kb 1 1] ?_ (he:=by subst hx119; kernel_rfl)
      refine t_m0 [0] [1,2,3] [2,3,10,16,17,18] [vP b1,vP b4,vB z47.2.1,vL aa l_,vI (ln l_),vI v10] (fun _ _ H121 hd => o_store [vI (w64 (v11 + (w64 (y25.rules + 1)))),vI x119,vB v13] H121 hd rfl rfl (by kernel_rfl) rfl rfl rfl) (t_end (t_sel [0,2,3] (t_start ?_)))
      refine t_b 6 [2,3,16,17,18,215,216] [vP b1,vP b4,vL aa l_,vI (ln l_),vI v10,vB (cond v13 true z47.2.1),vA b4 2] [kb 0 2] ?_
      refine t_m0 [0] [1,2] [2,3,16,17,18] [vP b1,vP b4,vL aa l_,vI (ln l_),vI v10] (fun _ _ H125 hd => o_store [vI (w64 (v11 + (w64 (y25.rules + 1)))),vI x119,vB (cond v13 true z47.2.1)] H125 hd rfl rfl (by kernel_rfl) rfl rfl rfl) (t_end ?_)
      obtain rfl:=someE hm
      exact t_e [2,3,16,17,18]
    ·refine t_w [2,3,16,17,18] [vP b1,vP b4,vL aa l_,vI (ln l_),vI (w64 (v10 + 1))] [] ?_
     exact fun _ _ H130 hS => ⟨_,Nat.lt_succ_self _,w64 (v10 + 1),z16.1,z16.2.1,z16.2.2,hm,FrG.keep (ks:=[2,3,16,17,18]) H130 (by kernel_rfl),hS⟩
  ·refine t_sel [0,1] (t_starts ?_)
   refine t_b 1 [2,218] [vP b1,vG [vI z7.1,vI z7.2.1,vB z7.2.2]] [kE 0 3] ?_
   refine t_m0 [1] [0] [2] [vP b1] (fun _ _ H135 hd => o_store [vI z7.1,vI z7.2.1,vB z7.2.2] H135 hd rfl rfl (by kernel_rfl) rfl rfl rfl) (t_end (t_sel [0] (t_ret ?_)))
   obtain rfl:=someE hm
   exact t_n [] (rsa 0 Tryz.underlying117)
def s7 (m : Nat) (l_ : List aS) : Option (eu):=jE m  m l_
theorem tG {aa : Gh} (m : Nat) (l_ : List aS) (r : eu) (hm : s7 m l_ = some r) (w : World) (hL : S0 F0 [eI aJ l_ aa] w ∧ fpl [eI aJ l_ aa] = []) : RetB Tryz.prog 52 ⟨[vL aa l_]⟩ (.agg ⟨e15 r⟩) w:=retB_of hL (Tryz.call52 _) (fun w' h => uA m   m aa F0 l_ r hm w' h)

def mz (m : Nat) (l_ : List aS) : Option (Int) :=
  Option.bind (s7 m l_) fun y3 =>
  lt (cond y3.bad true (decide (64 < y3.rules))) fun x11 =>
  cond (cond x11 true (decide (16 < y3.depth))) (
  some 8) (
  some 0)
theorem oE {aa : Gh} (m : Nat) (l_ : List aS) (r : Int) (hm : mz m l_ = some r) (w : World) (hL : S0 F0 [eI aJ l_ aa] w ∧ fpl [eI aJ l_ aa] = []) : RetB Tryz.prog 37 ⟨[vL aa l_]⟩ (vI r) w:=by
 rw [mz] at hm
 refine f_read hL (Tryz.call37 _) Tryz.func37 Tryz.ntmps37 fun M X w => ?_
 refine t_r [0] [vL aa l_] [] (t_seq (t_starts ?_))
 obtain ⟨y3,hy3,hm⟩:=bindE hm
 refine t_b 2 [5] [.agg ⟨e15 y3⟩] [kr fun _ hS => tG (aa:=aa) m _ _ hy3 _ (s0im s0nil (hS.im 0 rfl))] ?_
 refine t_m [] [0] [5] [.agg ⟨e15 y3⟩] (fun _ _ H5 hd => o_alloc [vI 0,vI 0,vF] (z:=vG [vI 0,vI 0,vF]) hd (by kernel_rfl) rfl) fun b6 => ?_
 refine t_m0 [0] [1] [3] [vP b6] (fun _ _ H8 hd => o_store (e15 y3) H8 hd rfl rfl (by kernel_rfl) rfl rfl rfl) (t_end (t_sel [0] ?_))
 obtain ⟨x11,hx11,hm⟩:=letE hm
 refine t_r [17] [vB (cond x11 true (decide (16 < y3.depth)))] [kb 0 2,kgb (y3.bad = false ∧ True) 0 0,kgb (x11 = false ∧ True) 0 1] ?_ (he:=by subst hx11; kernel_rfl)
 refine t_sel [] ?_
 refine t_im hm (fun hm => ?c18) (fun hm => ?_)
 case c18 =>
  refine t_r [2] [vI 8] [] (t_ret ?_)
  obtain rfl:=someE hm
  exact t_n [] rs1
 refine t_skip ?_
 refine t_r [2] [vI 0] [] (t_ret ?_)
 obtain rfl:=someE hm
 exact t_n [] rs1

def oI (m : Nat) (s : hZ) : Option (Int) :=
  Option.bind (mz m s.aF) fun y6 =>
  some y6
theorem sB {tX : Gh} (m : Nat) (s : hZ) (r : Int) (hm : oI m s = some r) (w : World) (hL : S0 F0 [eI aJ s.aF tX] w ∧ fpl [eI aJ s.aF tX] = []) : RetB Tryz.prog 24 ⟨[vG [vL tX s.aF]]⟩ (vI r) w:=by
 rw [oI] at hm
 refine f_read hL (Tryz.call24 _) Tryz.func24 Tryz.ntmps24 fun M X w => (t_starts ?_)
 refine t_m [] [0] [] [] (fun _ _ H hd => o_box [vL tX s.aF] H hd rfl rfl) fun b1 => ?_
 refine t_b 2 [1] [vP b1] [] (t_end ?_)
 obtain ⟨y6,hy6,hm⟩:=bindE hm
 refine t_r [2] [vI y6] [kb 0 0,kr fun _ hS => oE (aa:=tX) m _ _ hy6 _ (s0im s0nil (hS.im 1 rfl))] (t_sel [] (t_ret ?_))
 obtain rfl:=someE hm
 exact t_n [] rs1

def iP (m : Nat) (l_ : List bM) : Nat → Int → Option (Sum (Int) (Unit))
  | 0,_ => none
  | kk + 1,v10 =>
    cond (decide (v10 < (ln l_))) (
    chk (0 ≤ v10 ∧ v10 < ln l_) <|
    lt (cond (decide (((gi l_ v10).ed) < 1)) true (decide (3 < ((gi l_ v10).ed)))) fun x21 =>
    Option.bind (cond x21 (some default) (oI m ((gi l_ v10).bj))) fun y22 =>
    cond (cond x21 true (y22 != 0)) (
    some (.inl 8)) (
    iP m l_ kk (w64 (v10 + 1)))) (
    some (.inr ()))
def gp (m : Nat) (l_ : List bM) : Option (Int) :=
  cond (decide (8 < (ln l_))) (
  some 4) (
  Option.bind (
  iP m l_ m 0) fun (z7 : Sum (Int) (Unit)) => sumK z7 fun s_z7 =>
  some 0)
theorem gw {aa : Gh} (m : Nat) (l_ : List bM) (r : Int) (hm : gp m l_ = some r) (w : World) (hL : S0 F0 [eI bx l_ aa] w ∧ fpl [eI bx l_ aa] = []) : RetB Tryz.prog 12 ⟨[vL aa l_]⟩ (vI r) w:=by
 rw [gp] at hm
 refine f_read hL (Tryz.call12 _) Tryz.func12 Tryz.ntmps12 fun M X w => ?_
 refine t_r [0] [vL aa l_] [] (t_seq ?_)
 refine t_r [0,7] [vL aa l_,vB (decide (8 < (ln l_)))] [] ?_
 refine t_im hm (fun hm => ?c35) (fun hm => ?_)
 case c35 =>
  refine t_r [2] [vI 4] [] (t_sel [] (t_ret ?_))
  obtain rfl:=someE hm
  exact t_n [] rs1
 refine t_skip ?_
 obtain ⟨z7,hz,hm_z7⟩:=bindE hm
 intro _ _ H4 hS
 refine w_cut (fun a' w' => ∃ s_z7 : Unit,z7 = Sum.inr s_z7 ∧ Fr 29 [] a' ∧ SH M X w [eI bx l_ aa] w') ?_ ?_
 ·replace hm:=hz
  refine t_in H4 hS ?_
  refine t_r [8,9,10] [vL aa l_,vI (ln l_),vI 0] [] (t_block ?_)
  intro _ _ H9 hS
  refine w_loop (fun kk a' w' => ∃ (v10 : Int),iP m l_ kk v10 = some _ ∧ Fr 29 (fS [8,9,10] [vL aa l_,vI (ln l_),vI v10]) a' ∧ SH M X w [eI bx l_ aa] w') ⟨_,0,hm,FrG.keep (ks:=[8,9,10]) H9 (by kernel_rfl),hS⟩ ?_
  clear hm H9 hS
  rintro kk _ _ ⟨v10,hm,H,hS⟩
  cases kk with
  | zero => exact noneE hm
  | succ kk =>
   rw [iP] at hm
   refine t_in H hS ?_
   refine t_r [8,9,10,11] [vL aa l_,vI (ln l_),vI v10,vB (decide (v10 < (ln l_)))] [] (t_seq ?_)
   refine t_im hm (fun hm => ?_) (fun hm => ?c30)
   case c30 =>
    refine t_exit ?_
    obtain rfl:=someE hm
    exact fun _ _ H12 hS => ⟨_,rfl,FrG.keep (ks:=[]) H12 (by kernel_rfl),hS⟩
   refine t_skip (t_seq (t_block (t_starts ?_)))
   obtain ⟨ho13,hm⟩:=chkE hm
   refine t_b 2 [8,9,10,13] [vL aa l_,vI (ln l_),vI v10,vG [vU ((gi l_ v10).ed),.slice (aa.s (v10).toNat 0).a (((gi l_ v10).bj.aF).length) (aa.s (v10).toNat 0).c]] [ki 0 ho13,⟨some (vG [vU ((gi l_ v10).ed),.slice (aa.s (v10).toNat 0).a (((gi l_ v10).bj.aF).length) (aa.s (v10).toNat 0).c]),fun wz => V.atN (ab aa.a) (ao aa.a + (v10).toNat * 2) [vU ((gi l_ v10).ed),.slice (aa.s (v10).toNat 0).a (((gi l_ v10).bj.aF).length) (aa.s (v10).toNat 0).c] 0 wz,fun _ hS => ((hS.im 0 rfl).atA ho13 0 rfl)⟩] ?_
   refine t_m [] [0] [8,9,10,13] [vL aa l_,vI (ln l_),vI v10,vG [vU ((gi l_ v10).ed),.slice (aa.s (v10).toNat 0).a (((gi l_ v10).bj.aF).length) (aa.s (v10).toNat 0).c]] (fun _ _ H15 hd => o_alloc [vU 0,vO] (z:=vG [vU 0,vO]) hd (by kernel_rfl) rfl) fun b16 => ?_
   refine t_m0 [0] [1] [4,8,9,10] [vP b16,vL aa l_,vI (ln l_),vI v10] (fun _ _ H18 hd => o_store [vU ((gi l_ v10).ed),.slice (aa.s (v10).toNat 0).a (((gi l_ v10).bj.aF).length) (aa.s (v10).toNat 0).c] H18 hd rfl rfl (by kernel_rfl) rfl rfl rfl) (t_end ?_)
   obtain ⟨x21,hx21,hm⟩:=letE hm
   obtain ⟨y22,hy22,hm⟩:=bindE hm
   refine t_r [8,9,10,27] [vL aa l_,vI (ln l_),vI v10,vB (cond x21 true (y22 != 0))] [kb 0 0,kgb ((decide (((gi l_ v10).ed) < 1)) = false ∧ True) 0 0,⟨some (vG [.slice (aa.s (v10).toNat 0).a (((gi l_ v10).bj.aF).length) (aa.s (v10).toNat 0).c]),fun wz => (x21 = false ∧ True → V.atN b16 1 [.slice (aa.s (v10).toNat 0).a (((gi l_ v10).bj.aF).length) (aa.s (v10).toNat 0).c] 0 wz),fun _ hS => fun hg => (hS.bk 0 rfl).atD rfl⟩,kgr (x21 = false ∧ True) fun _ hS hg => sB (tX:=(aa.s (v10).toNat 0)) m _ _ (bF (hg.1) hy22) _ (s0im s0nil (cF ((hS.im 1 rfl).el ho13)))] ?_ (he:=by subst hx21; kernel_rfl)
   refine t_sel [1] ?_
   refine t_im hm (fun hm => ?_) (fun hm => ?c29)
   case c29 =>
    refine t_skip ?_
    refine t_w [8,9,10] [vL aa l_,vI (ln l_),vI (w64 (v10 + 1))] [] ?_
    exact fun _ _ H28 hS => ⟨_,Nat.lt_succ_self _,w64 (v10 + 1),hm,FrG.keep (ks:=[8,9,10]) H28 (by kernel_rfl),hS⟩
   refine t_r [2] [vI 8] [] (t_ret ?_)
   obtain rfl:=someE hm
   have hm:=hm_z7
   obtain rfl:=someE hm
   exact t_n [] rs1
 ·rintro _ _ ⟨s_z7,hz,H,hS⟩
  subst hz
  replace hm:=sumR hm_z7
  replace hS : SH M X w [] _:=hS.sel [] rfl
  refine t_in H hS ?_
  refine t_r [2] [vI 0] [] (t_ret ?_)
  obtain rfl:=someE hm
  exact t_n [] rs1

def fM (e_ : iu) : Bool :=
  lt (cond (decide (0 ≤ e_.ct)) (decide (e_.ct ≤ 1000000000)) false) fun x6 =>
  x6
theorem l7  (e_ : iu) : Ret Tryz.prog 14 ⟨[vG [vI e_.ct]]⟩ (vB (fM e_)):=by
 generalize hm : fM e_ = r
 rw [fM] at hm
 refine f_pure (Tryz.call14 _) Tryz.func14 Tryz.ntmps14 fun M X w => (t_starts ?_)
 refine t_m [] [] [] [] (fun _ _ H hd => o_box [vI e_.ct] H hd rfl rfl) fun b1 => ?_
 refine t_b 2 [1] [vP b1] [] (t_end ?_)
 obtain ⟨x6,hx6,hm⟩:=letE hm
 refine t_r [2] [vB x6] [kb 0 0,kgb ((decide (0 ≤ e_.ct)) = true ∧ True) 0 0] ?_ (he:=by subst hx6; kernel_rfl)
 refine t_sel [] (t_ret ?_)
 subst hm
 exact t_n [] rs1

structure aw where
  ba : Int
  jN : List Str
  aM : aS
instance : Inhabited aw:=⟨⟨default,default,default⟩⟩
def am : Ty aw where
  z:=14
  enc:=fun x g => [vI x.ba,.slice (g 0).a x.jN.length (g 0).c,vU x.aM.aj,.slice (g 1).a x.aM.aC.length (g 1).c,.slice (g 2).a x.aM.bl.length (g 2).c,vU x.aM.aB.aj,vS x.aM.aB.bA,vI x.aM.aB.Num,vS x.aM.aB.az.bA,.slice (g 3).a x.aM.aB.az.Value.length (g 3).c,vB x.aM.aB.az.bK,.slice (g 4).a x.aM.aB.a8.length (g 4).c,.slice (g 5).a x.aM.aQ.length (g 5).c,.slice (g 6).a x.aM.aF.length (g 6).c]
  inn:=fun M w x g => SlG tS M w x.jN (g 0) ∧ SlG au M w x.aM.aC (g 1) ∧ SlG bf M w x.aM.bl (g 2) ∧ SlG a6 M w x.aM.aB.az.Value (g 3) ∧ SlG ak M w x.aM.aB.a8 (g 4) ∧ SlG (Ty.sl tS) M w x.aM.aQ (g 5) ∧ SlG aJ M w x.aM.aF (g 6) ∧ True
  len:=fun _ _ => rfl
  one:=fun _ _ => rfl
  kp:=fun h k hX => ⟨h.1.kp k hX,h.2.1.kp k hX,h.2.2.1.kp k hX,h.2.2.2.1.kp k hX,h.2.2.2.2.1.kp k hX,h.2.2.2.2.2.1.kp k hX,h.2.2.2.2.2.2.1.kp k hX,trivial⟩
  anti:=fun h hM => ⟨h.1.anti hM,h.2.1.anti hM,h.2.2.1.anti hM,h.2.2.2.1.anti hM,h.2.2.2.2.1.anti hM,h.2.2.2.2.2.1.anti hM,h.2.2.2.2.2.2.1.anti hM,trivial⟩
  fresh:=fun h => ⟨h.1.fresh,h.2.1.fresh,h.2.2.1.fresh,h.2.2.2.1.fresh,h.2.2.2.2.1.fresh,h.2.2.2.2.2.1.fresh,h.2.2.2.2.2.2.1.fresh,trivial⟩
def e18 (x : aw) (g : Nat → Gh) : List Value:=am.enc x g
theorem qt {M : Av} {w : World} {x : aw} {g : Nat → Gh} (h : am.inn M w x g) : SlG tS M w x.jN (g 0):=(show SlG tS M w x.jN (g 0) ∧ SlG au M w x.aM.aC (g 1) ∧ SlG bf M w x.aM.bl (g 2) ∧ SlG a6 M w x.aM.aB.az.Value (g 3) ∧ SlG ak M w x.aM.aB.a8 (g 4) ∧ SlG (Ty.sl tS) M w x.aM.aQ (g 5) ∧ SlG aJ M w x.aM.aF (g 6) ∧ True from h).1
theorem mh {M : Av} {w : World} {x : aw} {g : Nat → Gh} (h : am.inn M w x g) : SlG au M w x.aM.aC (g 1):=(show SlG tS M w x.jN (g 0) ∧ SlG au M w x.aM.aC (g 1) ∧ SlG bf M w x.aM.bl (g 2) ∧ SlG a6 M w x.aM.aB.az.Value (g 3) ∧ SlG ak M w x.aM.aB.a8 (g 4) ∧ SlG (Ty.sl tS) M w x.aM.aQ (g 5) ∧ SlG aJ M w x.aM.aF (g 6) ∧ True from h).2.1
theorem mo {M : Av} {w : World} {x : aw} {g : Nat → Gh} (h : am.inn M w x g) : SlG bf M w x.aM.bl (g 2):=(show SlG tS M w x.jN (g 0) ∧ SlG au M w x.aM.aC (g 1) ∧ SlG bf M w x.aM.bl (g 2) ∧ SlG a6 M w x.aM.aB.az.Value (g 3) ∧ SlG ak M w x.aM.aB.a8 (g 4) ∧ SlG (Ty.sl tS) M w x.aM.aQ (g 5) ∧ SlG aJ M w x.aM.aF (g 6) ∧ True from h).2.2.1
theorem mC {M : Av} {w : World} {x : aw} {g : Nat → Gh} (h : am.inn M w x g) : SlG a6 M w x.aM.aB.az.Value (g 3):=(show SlG tS M w x.jN (g 0) ∧ SlG au M w x.aM.aC (g 1) ∧ SlG bf M w x.aM.bl (g 2) ∧ SlG a6 M w x.aM.aB.az.Value (g 3) ∧ SlG ak M w x.aM.aB.a8 (g 4) ∧ SlG (Ty.sl tS) M w x.aM.aQ (g 5) ∧ SlG aJ M w x.aM.aF (g 6) ∧ True from h).2.2.2.1
theorem mE {M : Av} {w : World} {x : aw} {g : Nat → Gh} (h : am.inn M w x g) : SlG ak M w x.aM.aB.a8 (g 4):=(show SlG tS M w x.jN (g 0) ∧ SlG au M w x.aM.aC (g 1) ∧ SlG bf M w x.aM.bl (g 2) ∧ SlG a6 M w x.aM.aB.az.Value (g 3) ∧ SlG ak M w x.aM.aB.a8 (g 4) ∧ SlG (Ty.sl tS) M w x.aM.aQ (g 5) ∧ SlG aJ M w x.aM.aF (g 6) ∧ True from h).2.2.2.2.1
theorem mu {M : Av} {w : World} {x : aw} {g : Nat → Gh} (h : am.inn M w x g) : SlG (Ty.sl tS) M w x.aM.aQ (g 5):=(show SlG tS M w x.jN (g 0) ∧ SlG au M w x.aM.aC (g 1) ∧ SlG bf M w x.aM.bl (g 2) ∧ SlG a6 M w x.aM.aB.az.Value (g 3) ∧ SlG ak M w x.aM.aB.a8 (g 4) ∧ SlG (Ty.sl tS) M w x.aM.aQ (g 5) ∧ SlG aJ M w x.aM.aF (g 6) ∧ True from h).2.2.2.2.2.1
theorem mI {M : Av} {w : World} {x : aw} {g : Nat → Gh} (h : am.inn M w x g) : SlG aJ M w x.aM.aF (g 6):=(show SlG tS M w x.jN (g 0) ∧ SlG au M w x.aM.aC (g 1) ∧ SlG bf M w x.aM.bl (g 2) ∧ SlG a6 M w x.aM.aB.az.Value (g 3) ∧ SlG ak M w x.aM.aB.a8 (g 4) ∧ SlG (Ty.sl tS) M w x.aM.aQ (g 5) ∧ SlG aJ M w x.aM.aF (g 6) ∧ True from h).2.2.2.2.2.2.1
theorem qe {M : Av} {w : World} {x : aw} {g : Nat → Gh} (h0 : SlG tS M w x.jN (g 0)) (h1 : SlG au M w x.aM.aC (g 1)) (h2 : SlG bf M w x.aM.bl (g 2)) (h3 : SlG a6 M w x.aM.aB.az.Value (g 3)) (h4 : SlG ak M w x.aM.aB.a8 (g 4)) (h5 : SlG (Ty.sl tS) M w x.aM.aQ (g 5)) (h6 : SlG aJ M w x.aM.aF (g 6)) : am.inn M w x g:=show SlG tS M w x.jN (g 0) ∧ SlG au M w x.aM.aC (g 1) ∧ SlG bf M w x.aM.bl (g 2) ∧ SlG a6 M w x.aM.aB.az.Value (g 3) ∧ SlG ak M w x.aM.aB.a8 (g 4) ∧ SlG (Ty.sl tS) M w x.aM.aQ (g 5) ∧ SlG aJ M w x.aM.aF (g 6) ∧ True from ⟨h0,h1,h2,h3,h4,h5,h6,trivial⟩
def mm (i : Int) (u0 : List ae) : Option (Bool) :=
  chk (0 ≤ i ∧ i < ln u0) <|
  some (((gi u0 i).ax.aj) == 13)
theorem oq {aW : Nat} {wg : Gh} (i : Int) (u0 : List ae) (r : Bool) (hm : mm i u0 = some r) (w : World) (hL : S0 F0 [Ent.ro aW [vL wg u0],eI a6 u0 wg] w ∧ fpl [Ent.ro aW [vL wg u0],eI a6 u0 wg] = []) : RetB Tryz.prog 152 ⟨[vI i,vP aW]⟩ (vB r) w:=by
 rw [mm] at hm
 refine f_read hL (Tryz.call152 _) Tryz.func152 Tryz.ntmps152 fun M X w => ?_
 refine t_r [0,1] [vI i,vP aW] [] ?_
 obtain ⟨ho3,hm⟩:=chkE hm
 refine t_r [3] [vB (((gi u0 i).ax.aj) == 13)] [ko 0 0,ki 1 ho3,kj 1 0 ho3] (t_sel [] (t_ret ?_))
 obtain rfl:=someE hm
 exact t_n [] rs1

def es (s : List ae) : Option (List ae) :=
  chk (ln ([] : List ae) + ln s ≤ 137438953472) <|
  lt (([] : List ae) ++ s) fun q22 =>
  some q22
theorem iD {g_s : Gh} (s : List ae) (r : List ae) (hm : es s = some r) : DoesM Tryz.prog 212 ⟨[vL g_s s]⟩ [eI a6 s g_s] (fun (aA : Gh) => vL aA r) (fun aA => [eO 137 a6 r aA]):=by
 rw [es] at hm
 refine f_mem (Tryz.call212 _) Tryz.func212 Tryz.ntmps212 fun M X w => ?_
 refine t_r [0] [vL g_s s] [] (t_seq ?_)
 intro _ _ H2 hS
 rcases g_s with _ | ⟨_ | ad,gc,gs⟩
 ·obtain rfl : s = []:=SlG.nl (hS.im 0 rfl) rfl
  replace hm : (some ([] : List ae)) = some r:=hm
  refine t_in H2 hS ?_
  refine t_r [0,4] [.slice Gh.nil.a (([] : List ae).length) Gh.nil.c,vT] [] ?_
  intro _ _ H4 hS
  refine w_if H4 rfl (fun _ => ?_) (fun hc => by cases hc)
  refine t_in H4 hS ?_
  refine t_r [2] [vO] [] (t_sel [] (t_ret ?_))
  obtain rfl:=someE hm
  refine t_nil 137 a6 ?_
  exact t_g Gh.nil [0] rs1
 ·obtain rfl : s = []:=SlG.nl (hS.im 0 rfl) rfl
  replace hm : (some ([] : List ae)) = some r:=hm
  refine t_in H2 hS ?_
  refine t_r [0,4] [.slice (Gh.mk none gc gs).a (([] : List ae).length) (Gh.mk none gc gs).c,vT] [] ?_
  intro _ _ H9 hS
  refine w_if H9 rfl (fun _ => ?_) (fun hc => by cases hc)
  refine t_in H9 hS ?_
  refine t_r [2] [vO] [] (t_sel [] (t_ret ?_))
  obtain rfl:=someE hm
  refine t_nil 137 a6 ?_
  exact t_g Gh.nil [0] rs1
 ·skip
  refine t_in H2 hS ?_
  refine t_r [0,4] [.slice (Gh.mk (some ad) gc gs).a s.length (Gh.mk (some ad) gc gs).c,vF] [] ?_
  intro _ _ H14 hS
  refine w_if H14 rfl (fun hc => by cases hc) (fun _ => ?_)
  refine t_in H14 hS (t_skip (t_starts ?_))
  refine t_m [] [0] [0] [.slice (Gh.mk (some ad) gc gs).a s.length (Gh.mk (some ad) gc gs).c] (fun _ _ H14 hd => o_lit0 (T:=a6) (E:=137) hd (by kernel_rfl) (by kernel_rfl)) fun g15 => ?_
  refine t_b 2 [5,6] [vK g15 0,.slice (Gh.mk (some ad) gc gs).a s.length (Gh.mk (some ad) gc gs).c] [] ?_
  obtain ⟨ho21,hm⟩:=chkE hm
  obtain ⟨q22,hq22,hm⟩:=letE hm
  refine t_m [0,1] [1] [] [] (fun _ _ H20 hd => o_app (T:=a6) (zv:=vG [vU 0,vN,vI 0,vN,vF,vO]) (g1:=g15) (g2:=(Gh.mk (some ad) gc gs)) (l1:=([] : List ae)) (l2:=s) q22 hq22.symm H20 hd rfl rfl rfl rfl rfl rfl rfl (by kernel_rfl) (by kernel_rfl) rfl rfl ho21) fun g25 => ?_
  refine t_b 4 [2] [vL g25 q22] [] (t_end (t_sel [0] (t_ret ?_)))
  obtain rfl:=someE hm
  exact t_g g25 [0] rs1

def vv (gf : (List ae) → Option (List ae)) : Prop:=∀ (af : Gh) (M : Av) (v_ : List ae) (r : List ae),gf v_ = some r → ∀ w,S0 M [eI a6 v_ af] w → Calls Tryz.prog 153 ⟨[vL af v_]⟩ w (fun e w' => ∃ v,e = .returned v ∧ ∃ (aA : Gh),v = vL aA r ∧ SH M (fpl [eI a6 v_ af]) w [eO 137 a6 r aA] w')
def lE (m : Nat) (y5 : List ae) (p6 : (List ae) → Option (List ae)) : Nat → (List ae) → Int → Option (List ae)
  | 0,_,_ => none
  | kk + 1,v15,v17 =>
    cond (decide (v17 < (ln y5))) (
    chk (0 ≤ v17 ∧ v17 < ln v15) <|
    Option.bind (p6 ((gi v15 v17).a8)) fun y26 =>
    lt (setl v15 v17 (ae.mk ((gi v15 v17).ax) y26)) fun q36 =>
    lE m y5 p6 kk q36 (w64 (v17 + 1))) (
    some v15)
def kV (m : Nat) : Nat → (List ae) → Option (List ae)
  | 0,_ => none
  | k + 1,v_ =>
    Option.bind (es v_) fun y5 =>
    Option.bind (
    lE m y5 (kV m k) m y5 0) fun (z12 : List ae) =>
    some z12
end Go.Proofs.YtebkjhhhdgbloaaGreatDoor
