/-
  What the Go functions compute, as Lean functions, and that a call returns just that. Printed by a program.
-/
import Derived.Test.YtpgflfjmjppmeaaGreatDoorRows
import Derived.Test.YtpgflfjmjppmeaaGreatDoorX
import Derived.Test.YtpgflfjmjppmeaaGreatDoorMP
import Derived.Test.YtpgflfjmjppmeaaGreatDoorCO
import Derived.Test.YtpgflfjmjppmeaaGreatDoorAF
import Derived.Test.YtpgflfjmjppmeaaGreatDoorM
import Derived.Test.YtpgflfjmjppmeaaGreatDoorW27nc
set_option linter.unusedVariables false
set_option maxRecDepth 20000
set_option maxHeartbeats 4000000
namespace Go.Proofs.YtpgflfjmjppmeaaGreatDoor
open Go.V Go.RowKit

theorem law27_ShortNames_w  (M : Av) (m : Nat)  (r : Bool) (hm : law27_ShortNames m = some r) (w : World) (hS : S0 M [gE0] w) : Calls Tryz.prog 6 ⟨[]⟩ w (fun e w' => ∃ v,e = .returned v ∧ v = vB r ∧ SH M (fpl [gE0]) w [] w'):=by
 rw [law27_ShortNames] at hm
 have hS0 : SH M (fpl [gE0]) w [gE0] w:=hS
 generalize hX : fpl [gE0] = X at hS0 ⊢
 clear hS hX
 have hS:=hS0
 clear hS0
 refine calls_entryP Tryz.func6 rfl Tryz.ntmps6 rfl fun _ H => ?_
 refine s_reg [] [] [] [] H (by kernel_rfl) trivial fun _ _ H2 hb => ?_
 replace hS:=hS.below hb
 clear H hb
 apply w_seq
 apply wl_start
 obtain ⟨y3,hy3,hm⟩:=letE hm
 have hd:=hS.hand [] [0] rfl rfl
 refine m_stp [33] [] H2 rfl rfl rfl rfl (o_callx H2 rfl rfl (short_Names_ok _ hy3.symm _ _ hd)) (fun _ => rfl) fun _ _ v H7 hq => ?_
 clear H2 hd
 obtain ⟨g4,rfl,hq⟩:=hq
 replace hS : SH M X w [eO 9 tS y3 g4,gE0] _:=hS.join [] [0] rfl rfl hq
 clear hq
 have hd:=hS.hand [] [0,1] rfl rfl
 refine m_stp [34,33] [(33,[],vL g4 y3)] H7 rfl rfl rfl rfl (o_lit (T:=tS) (E:=9) (zv:=vN) [vS [109,97,114,103,105,110],vS [98,111,114,100,101,114],vS [111,117,116,108,105,110,101],vS [98,97,99,107,103,114,111,117,110,100]] kL16 [gL [],gL [],gL [],gL []] _ H7 hd rfl (by kernel_rfl) (by kernel_rfl) (by kernel_rfl) (by kernel_rfl) (by kernel_rfl) (by kernel_rfl) (by kernel_rfl) rfl (InnL.cons trivial (InnL.cons trivial (InnL.cons trivial (InnL.cons trivial InnL.nil))))) (fun _ => rfl) fun _ _ v H11 hq => ?_
 clear H7 hd
 obtain ⟨g8,rfl,hq⟩:=hq
 replace hS : SH M X w [eO 9 tS kL16 g8,eO 9 tS y3 g4,gE0] _:=hS.join [] [0,1] rfl rfl hq
 clear hq
 obtain ⟨y12,hy12,hm⟩:=bindE hm
 refine wl_batch 2 4 [(vB y12)] [1] [(1,[],vB y12)] [rB 13 [vL g4 y3,vK g8 4] (vB y12)] H11 (by decide) (by kernel_rfl) ⟨(r27_SameTexts_ok (g_a_:=g4) (g_b_:=g8) m _ _ _ hy12 _ (s0im (s0im s0nil (hS.osl 0 rfl)) (hS.osl 1 rfl))),trivial⟩ fun _ _ H14 hb => ?_
 replace hS:=hS.below hb
 clear H11 hb
 apply wl_end rfl
 replace hS : SH M X w [gE0] _:=hS.sel [2] rfl
 apply w_seq
 apply wl_start
 obtain ⟨y15,hy15,hm⟩:=bindE hm
 have hd:=hS.hand [] [0] rfl rfl
 refine m_stp [36,1] [(1,[],vB y12)] H14 rfl rfl rfl rfl (o_callx H14 rfl rfl (law27_decl_ok m _ _ _ hy15 _ _ hd)) (fun _ => rfl) fun _ _ v H19 hq => ?_
 clear H14 hd
 obtain ⟨g16,rfl,hq⟩:=hq
 replace hS : SH M X w [eO 51 tyValue y15.Value g16,gE0] _:=hS.join [] [0] rfl rfl hq
 clear hq
 have hd:=hS.hand [] [0,1] rfl rfl
 refine m_stp [37,1,36] (fS [1,36] [vB y12,vG [vS y15.Name,vL g16 y15.Value,vB y15.Important]]) H19 rfl rfl rfl rfl (o_lit (T:=tS) (E:=9) (zv:=vN) [vS [109,97,114,103,105,110,45,116,111,112],vS [48],vS [109,97,114,103,105,110,45,114,105,103,104,116],vS [48],vS [109,97,114,103,105,110,45,98,111,116,116,111,109],vS [48],vS [109,97,114,103,105,110,45,108,101,102,116],vS [48]] kL21 [gL [],gL [],gL [],gL [],gL [],gL [],gL [],gL []] _ H19 hd rfl (by kernel_rfl) (by kernel_rfl) (by kernel_rfl) (by kernel_rfl) (by kernel_rfl) (by kernel_rfl) (by kernel_rfl) rfl (InnL.cons trivial (InnL.cons trivial (InnL.cons trivial (InnL.cons trivial (InnL.cons trivial (InnL.cons trivial (InnL.cons trivial (InnL.cons trivial InnL.nil))))))))) (fun _ => rfl) fun _ _ v H23 hq => ?_
 clear H19 hd
 obtain ⟨g20,rfl,hq⟩:=hq
 replace hS : SH M X w [eO 9 tS kL21 g20,eO 51 tyValue y15.Value g16,gE0] _:=hS.join [] [0,1] rfl rfl hq
 clear hq
 obtain ⟨y24,hy24,hm⟩:=bindE hm
 refine wl_batch 2 4 [(vB y24)] [1,2] (fS [1,2] [vB y12,vB y24]) [rB 21 [vG [vS y15.Name,vL g16 y15.Value,vB y15.Important],vN,vK g20 8] (vB y24)] H23 (by decide) (by kernel_rfl) ⟨(law27_is_ok (g_d__0:=g16) (g_want:=g20) m _ _ _ _ hy24 _ (s0im (s0im (s0im s0nil (hS.im 2 rfl)) (hS.osl 0 rfl)) (hS.osl 1 rfl))),trivial⟩ fun _ _ H26 hb => ?_
 replace hS:=hS.below hb
 clear H23 hb
 apply wl_end rfl
 replace hS : SH M X w [gE0] _:=hS.sel [2] rfl
 apply w_seq
 apply wl_start
 obtain ⟨y27,hy27,hm⟩:=bindE hm
 have hd:=hS.hand [] [0] rfl rfl
 refine m_stp [39,1,2] (fS [1,2] [vB y12,vB y24]) H26 rfl rfl rfl rfl (o_callx H26 rfl rfl (law27_decl_ok m _ _ _ hy27 _ _ hd)) (fun _ => rfl) fun _ _ v H31 hq => ?_
 clear H26 hd
 obtain ⟨g28,rfl,hq⟩:=hq
 replace hS : SH M X w [eO 51 tyValue y27.Value g28,gE0] _:=hS.join [] [0] rfl rfl hq
 clear hq
 have hd:=hS.hand [] [0,1] rfl rfl
 refine m_stp [40,1,2,39] (fS [1,2,39] [vB y12,vB y24,vG [vS y27.Name,vL g28 y27.Value,vB y27.Important]]) H31 rfl rfl rfl rfl (o_lit (T:=tS) (E:=9) (zv:=vN) [vS [109,97,114,103,105,110,45,116,111,112],vS [49,112,120],vS [109,97,114,103,105,110,45,114,105,103,104,116],vS [50,101,109],vS [109,97,114,103,105,110,45,98,111,116,116,111,109],vS [97,117,116,111],vS [109,97,114,103,105,110,45,108,101,102,116],vS [50,101,109]] kL22 [gL [],gL [],gL [],gL [],gL [],gL [],gL [],gL []] _ H31 hd rfl (by kernel_rfl) (by kernel_rfl) (by kernel_rfl) (by kernel_rfl) (by kernel_rfl) (by kernel_rfl) (by kernel_rfl) rfl (InnL.cons trivial (InnL.cons trivial (InnL.cons trivial (InnL.cons trivial (InnL.cons trivial (InnL.cons trivial (InnL.cons trivial (InnL.cons trivial InnL.nil))))))))) (fun _ => rfl) fun _ _ v H35 hq => ?_
 clear H31 hd
 obtain ⟨g32,rfl,hq⟩:=hq
 replace hS : SH M X w [eO 9 tS kL22 g32,eO 51 tyValue y27.Value g28,gE0] _:=hS.join [] [0,1] rfl rfl hq
 clear hq
 obtain ⟨y36,hy36,hm⟩:=bindE hm
 refine wl_batch 2 4 [(vB y36)] [1,2,3] (fS [1,2,3] [vB y12,vB y24,vB y36]) [rB 21 [vG [vS y27.Name,vL g28 y27.Value,vB y27.Important],vN,vK g32 8] (vB y36)] H35 (by decide) (by kernel_rfl) ⟨(law27_is_ok (g_d__0:=g28) (g_want:=g32) m _ _ _ _ hy36 _ (s0im (s0im (s0im s0nil (hS.im 2 rfl)) (hS.osl 0 rfl)) (hS.osl 1 rfl))),trivial⟩ fun _ _ H38 hb => ?_
 replace hS:=hS.below hb
 clear H35 hb
 apply wl_end rfl
 replace hS : SH M X w [gE0] _:=hS.sel [2] rfl
 apply w_seq
 apply wl_start
 obtain ⟨y39,hy39,hm⟩:=bindE hm
 have hd:=hS.hand [] [0] rfl rfl
 refine m_stp [42,1,2,3] (fS [1,2,3] [vB y12,vB y24,vB y36]) H38 rfl rfl rfl rfl (o_callx H38 rfl rfl (law27_decl_ok m _ _ _ hy39 _ _ hd)) (fun _ => rfl) fun _ _ v H43 hq => ?_
 clear H38 hd
 obtain ⟨g40,rfl,hq⟩:=hq
 replace hS : SH M X w [eO 51 tyValue y39.Value g40,gE0] _:=hS.join [] [0] rfl rfl hq
 clear hq
 have hd:=hS.hand [] [0,1] rfl rfl
 refine m_stp [43,1,2,3,42] (fS [1,2,3,42] [vB y12,vB y24,vB y36,vG [vS y39.Name,vL g40 y39.Value,vB y39.Important]]) H43 rfl rfl rfl rfl (o_lit (T:=tS) (E:=9) (zv:=vN) [vS [109,97,114,103,105,110,45,116,111,112],vS [49,112,120],vS [109,97,114,103,105,110,45,114,105,103,104,116],vS [50,112,120],vS [109,97,114,103,105,110,45,98,111,116,116,111,109],vS [51,112,120],vS [109,97,114,103,105,110,45,108,101,102,116],vS [52,112,120]] kL23 [gL [],gL [],gL [],gL [],gL [],gL [],gL [],gL []] _ H43 hd rfl (by kernel_rfl) (by kernel_rfl) (by kernel_rfl) (by kernel_rfl) (by kernel_rfl) (by kernel_rfl) (by kernel_rfl) rfl (InnL.cons trivial (InnL.cons trivial (InnL.cons trivial (InnL.cons trivial (InnL.cons trivial (InnL.cons trivial (InnL.cons trivial (InnL.cons trivial InnL.nil))))))))) (fun _ => rfl) fun _ _ v H47 hq => ?_
 clear H43 hd
 obtain ⟨g44,rfl,hq⟩:=hq
 replace hS : SH M X w [eO 9 tS kL23 g44,eO 51 tyValue y39.Value g40,gE0] _:=hS.join [] [0,1] rfl rfl hq
 clear hq
 obtain ⟨y48,hy48,hm⟩:=bindE hm
 refine wl_batch 2 4 [(vB y48)] [1,2,3,4] (fS [1,2,3,4] [vB y12,vB y24,vB y36,vB y48]) [rB 21 [vG [vS y39.Name,vL g40 y39.Value,vB y39.Important],vN,vK g44 8] (vB y48)] H47 (by decide) (by kernel_rfl) ⟨(law27_is_ok (g_d__0:=g40) (g_want:=g44) m _ _ _ _ hy48 _ (s0im (s0im (s0im s0nil (hS.im 2 rfl)) (hS.osl 0 rfl)) (hS.osl 1 rfl))),trivial⟩ fun _ _ H50 hb => ?_
 replace hS:=hS.below hb
 clear H47 hb
 apply wl_end rfl
 replace hS : SH M X w [gE0] _:=hS.sel [2] rfl
 obtain ⟨z51,hz,hm⟩:=bindE hm
 refine w_cut (fun a' w' => Fr 302 (fS [1,2,3,4,5] [vB y12,vB y24,vB y36,vB y48,vB z51]) a' ∧ SH M X w [gE0] w') ?_ ?_
 ·replace hm:=hz
  apply wl_start
  obtain ⟨y52,hy52,hm⟩:=bindE hm
  have hd:=hS.hand [] [0] rfl rfl
  refine m_stp [45,1,2,3,4] (fS [1,2,3,4] [vB y12,vB y24,vB y36,vB y48]) H50 rfl rfl rfl rfl (o_callx H50 rfl rfl (law27_decl_ok m _ _ _ hy52 _ _ hd)) (fun _ => rfl) fun _ _ v H56 hq => ?_
  clear H50 hd
  obtain ⟨g53,rfl,hq⟩:=hq
  replace hS : SH M X w [eO 51 tyValue y52.Value g53,gE0] _:=hS.join [] [0] rfl rfl hq
  clear hq
  have hd:=hS.hand [] [0,1] rfl rfl
  refine m_stp [46,1,2,3,4,45] (fS [1,2,3,4,45] [vB y12,vB y24,vB y36,vB y48,vG [vS y52.Name,vL g53 y52.Value,vB y52.Important]]) H56 rfl rfl rfl rfl (o_lit (T:=tS) (E:=9) (zv:=vN) [vS [109,97,114,103,105,110,45,116,111,112],vS [82,69,86,69,82,84],vS [109,97,114,103,105,110,45,114,105,103,104,116],vS [82,69,86,69,82,84],vS [109,97,114,103,105,110,45,98,111,116,116,111,109],vS [82,69,86,69,82,84],vS [109,97,114,103,105,110,45,108,101,102,116],vS [82,69,86,69,82,84]] kL14 [gL [],gL [],gL [],gL [],gL [],gL [],gL [],gL []] _ H56 hd rfl (by kernel_rfl) (by kernel_rfl) (by kernel_rfl) (by kernel_rfl) (by kernel_rfl) (by kernel_rfl) (by kernel_rfl) rfl (InnL.cons trivial (InnL.cons trivial (InnL.cons trivial (InnL.cons trivial (InnL.cons trivial (InnL.cons trivial (InnL.cons trivial (InnL.cons trivial InnL.nil))))))))) (fun _ => rfl) fun _ _ v H60 hq => ?_
  clear H56 hd
  obtain ⟨g57,rfl,hq⟩:=hq
  replace hS : SH M X w [eO 9 tS kL14 g57,eO 51 tyValue y52.Value g53,gE0] _:=hS.join [] [0,1] rfl rfl hq
  clear hq
  obtain ⟨y61,hy61,hm⟩:=bindE hm
  obtain ⟨x62,hx62,hm⟩:=letE hm
  refine wl_batch 2 4 [(vB y61)] [1,2,3,4,48] (fS [1,2,3,4,48] [vB y12,vB y24,vB y36,vB y48,vB x62]) [rB 21 [vG [vS y52.Name,vL g53 y52.Value,vB y52.Important],vN,vK g57 8] (vB y61)] H60 (by decide) (by subst hx62; kernel_rfl) ⟨(law27_is_ok (g_d__0:=g53) (g_want:=g57) m _ _ _ _ hy61 _ (s0im (s0im (s0im s0nil (hS.im 2 rfl)) (hS.osl 0 rfl)) (hS.osl 1 rfl))),trivial⟩ fun _ _ H64 hb => ?_
  replace hS:=hS.below hb
  clear H60 hb
  cases x62
  case false =>
   replace hm:=bF rfl hm
   refine m_skipG 48 [49,1,2,3,4,48] (fS [49,1,2,3,4,48] [undef,vB y12,vB y24,vB y36,vB y48,vF]) H64 rfl rfl rfl rfl rfl rfl fun _ H95 => ?_
   clear H64
   refine m_skipG 48 [50,1,2,3,4,48,49] (fS [50,1,2,3,4,48,49] [undef,vB y12,vB y24,vB y36,vB y48,vF,undef]) H95 rfl rfl rfl rfl rfl rfl fun _ H96 => ?_
   clear H95
   refine m_skipG 48 [51,1,2,3,4,48] (fS [51,1,2,3,4,48] [undef,vB y12,vB y24,vB y36,vB y48,vF]) H96 rfl rfl rfl rfl rfl rfl fun _ H97 => ?_
   clear H96
   refine wl_batch 7 9 [] [1,2,3,4,53] (fS [1,2,3,4,53] [vB y12,vB y24,vB y36,vB y48,vF]) [] H97 (by decide) (by kernel_rfl) trivial fun _ _ H99 hb => ?_
   replace hS:=hS.below hb
   clear H97 hb
   refine m_skipG 53 [54,1,2,3,4,53] (fS [54,1,2,3,4,53] [undef,vB y12,vB y24,vB y36,vB y48,vF]) H99 rfl rfl rfl rfl rfl rfl fun _ H100 => ?_
   clear H99
   refine m_skipG 53 [55,1,2,3,4,53,54] (fS [55,1,2,3,4,53,54] [undef,vB y12,vB y24,vB y36,vB y48,vF,undef]) H100 rfl rfl rfl rfl rfl rfl fun _ H101 => ?_
   clear H100
   refine m_skipG 53 [56,1,2,3,4,53] (fS [56,1,2,3,4,53] [undef,vB y12,vB y24,vB y36,vB y48,vF]) H101 rfl rfl rfl rfl rfl rfl fun _ H102 => ?_
   clear H101
   refine wl_batch 12 14 [] [1,2,3,4,5] (fS [1,2,3,4,5] [vB y12,vB y24,vB y36,vB y48,vF]) [] H102 (by decide) (by kernel_rfl) trivial fun _ _ H104 hb => ?_
   replace hS:=hS.below hb
   clear H102 hb
   apply wl_end rfl
   replace hS : SH M X w [gE0] _:=hS.sel [2] rfl
   obtain rfl:=someE hm
   exact ⟨FrG.keep (ks:=[1,2,3,4,5]) H104 (by kernel_rfl),hS⟩
  replace hm:=bT rfl hm
  obtain ⟨y65,hy65,hm⟩:=bindE hm
  have hd:=hS.hand [] [0,1,2] rfl rfl
  refine m_stpG 48 [49,1,2,3,4,48] (fS [1,2,3,4,48] [vB y12,vB y24,vB y36,vB y48,vT]) H64 rfl rfl rfl rfl (o_callx H64 rfl rfl (law27_decl_ok m _ _ _ hy65 _ _ hd)) (fun _ => rfl) fun _ _ v H69 hq => ?_
  clear H64 hd
  obtain ⟨g66,rfl,hq⟩:=hq
  replace hS : SH M X w [eO 51 tyValue y65.Value g66,eO 9 tS kL14 g57,eO 51 tyValue y52.Value g53,gE0] _:=hS.join [] [0,1,2] rfl rfl hq
  clear hq
  have hd:=hS.hand [] [0,1,2,3] rfl rfl
  refine m_stpG 48 [50,1,2,3,4,48,49] (fS [1,2,3,4,48,49] [vB y12,vB y24,vB y36,vB y48,vT,vG [vS y65.Name,vL g66 y65.Value,vB y65.Important]]) H69 rfl rfl rfl rfl (o_lit (T:=tS) (E:=9) (zv:=vN) [vS [99,111,108,111,114],vS [73,110,104,101,114,105,116]] kL17 [gL [],gL []] _ H69 hd rfl (by kernel_rfl) (by kernel_rfl) (by kernel_rfl) (by kernel_rfl) (by kernel_rfl) (by kernel_rfl) (by kernel_rfl) rfl (InnL.cons trivial (InnL.cons trivial InnL.nil))) (fun _ => rfl) fun _ _ v H73 hq => ?_
  clear H69 hd
  obtain ⟨g70,rfl,hq⟩:=hq
  replace hS : SH M X w [eO 9 tS kL17 g70,eO 51 tyValue y65.Value g66,eO 9 tS kL14 g57,eO 51 tyValue y52.Value g53,gE0] _:=hS.join [] [0,1,2,3] rfl rfl hq
  clear hq
  obtain ⟨y74,hy74,hm⟩:=bindE hm
  obtain ⟨x75,hx75,hm⟩:=letE hm
  refine wl_batch 6 9 [(vB y74)] [1,2,3,4,53] (fS [1,2,3,4,53] [vB y12,vB y24,vB y36,vB y48,vB x75]) [fun wz => (true = true ∧ True → RetB Tryz.prog 21 ⟨[vG [vS y65.Name,vL g66 y65.Value,vB y65.Important],vN,vK g70 2]⟩ (vB y74) wz)] H73 (by decide) (by subst hx75; kernel_rfl) ⟨fun hg => law27_is_ok (g_d__0:=g66) (g_want:=g70) m _ _ _ _ hy74 _ (s0im (s0im (s0im s0nil (hS.im 4 rfl)) (hS.osl 0 rfl)) (hS.osl 1 rfl)),trivial⟩ fun _ _ H77 hb => ?_
  replace hS:=hS.below hb
  clear H73 hb
  cases x75
  case false =>
   replace hm:=bF rfl hm
   refine m_skipG 53 [54,1,2,3,4,53] (fS [54,1,2,3,4,53] [undef,vB y12,vB y24,vB y36,vB y48,vF]) H77 rfl rfl rfl rfl rfl rfl fun _ H90 => ?_
   clear H77
   refine m_skipG 53 [55,1,2,3,4,53,54] (fS [55,1,2,3,4,53,54] [undef,vB y12,vB y24,vB y36,vB y48,vF,undef]) H90 rfl rfl rfl rfl rfl rfl fun _ H91 => ?_
   clear H90
   refine m_skipG 53 [56,1,2,3,4,53] (fS [56,1,2,3,4,53] [undef,vB y12,vB y24,vB y36,vB y48,vF]) H91 rfl rfl rfl rfl rfl rfl fun _ H92 => ?_
   clear H91
   refine wl_batch 12 14 [] [1,2,3,4,5] (fS [1,2,3,4,5] [vB y12,vB y24,vB y36,vB y48,vF]) [] H92 (by decide) (by kernel_rfl) trivial fun _ _ H94 hb => ?_
   replace hS:=hS.below hb
   clear H92 hb
   apply wl_end rfl
   replace hS : SH M X w [gE0] _:=hS.sel [4] rfl
   obtain rfl:=someE hm
   exact ⟨FrG.keep (ks:=[1,2,3,4,5]) H94 (by kernel_rfl),hS⟩
  replace hm:=bT rfl hm
  obtain ⟨y78,hy78,hm⟩:=bindE hm
  have hd:=hS.hand [] [0,1,2,3,4] rfl rfl
  refine m_stpG 53 [54,1,2,3,4,53] (fS [1,2,3,4,53] [vB y12,vB y24,vB y36,vB y48,vT]) H77 rfl rfl rfl rfl (o_callx H77 rfl rfl (law27_decl_ok m _ _ _ hy78 _ _ hd)) (fun _ => rfl) fun _ _ v H82 hq => ?_
  clear H77 hd
  obtain ⟨g79,rfl,hq⟩:=hq
  replace hS : SH M X w [eO 51 tyValue y78.Value g79,eO 9 tS kL17 g70,eO 51 tyValue y65.Value g66,eO 9 tS kL14 g57,eO 51 tyValue y52.Value g53,gE0] _:=hS.join [] [0,1,2,3,4] rfl rfl hq
  clear hq
  have hd:=hS.hand [] [0,1,2,3,4,5] rfl rfl
  refine m_stpG 53 [55,1,2,3,4,53,54] (fS [1,2,3,4,53,54] [vB y12,vB y24,vB y36,vB y48,vT,vG [vS y78.Name,vL g79 y78.Value,vB y78.Important]]) H82 rfl rfl rfl rfl (o_lit (T:=tS) (E:=9) (zv:=vN) [vS [45,45,97],vS [105,110,105,116,105,97,108]] kL24 [gL [],gL []] _ H82 hd rfl (by kernel_rfl) (by kernel_rfl) (by kernel_rfl) (by kernel_rfl) (by kernel_rfl) (by kernel_rfl) (by kernel_rfl) rfl (InnL.cons trivial (InnL.cons trivial InnL.nil))) (fun _ => rfl) fun _ _ v H86 hq => ?_
  clear H82 hd
  obtain ⟨g83,rfl,hq⟩:=hq
  replace hS : SH M X w [eO 9 tS kL24 g83,eO 51 tyValue y78.Value g79,eO 9 tS kL17 g70,eO 51 tyValue y65.Value g66,eO 9 tS kL14 g57,eO 51 tyValue y52.Value g53,gE0] _:=hS.join [] [0,1,2,3,4,5] rfl rfl hq
  clear hq
  obtain ⟨y87,hy87,hm⟩:=bindE hm
  refine wl_batch 11 14 [(vB y87)] [1,2,3,4,5] (fS [1,2,3,4,5] [vB y12,vB y24,vB y36,vB y48,vB y87]) [fun wz => (true = true ∧ True → RetB Tryz.prog 21 ⟨[vG [vS y78.Name,vL g79 y78.Value,vB y78.Important],vN,vK g83 2]⟩ (vB y87) wz)] H86 (by decide) (by kernel_rfl) ⟨fun hg => law27_is_ok (g_d__0:=g79) (g_want:=g83) m _ _ _ _ hy87 _ (s0im (s0im (s0im s0nil (hS.im 6 rfl)) (hS.osl 0 rfl)) (hS.osl 1 rfl)),trivial⟩ fun _ _ H89 hb => ?_
  replace hS:=hS.below hb
  clear H86 hb
  apply wl_end rfl
  replace hS : SH M X w [gE0] _:=hS.sel [6] rfl
  obtain rfl:=someE hm
  exact ⟨FrG.keep (ks:=[1,2,3,4,5]) H89 (by kernel_rfl),hS⟩
 ·rintro _ _ ⟨H,hS⟩
  obtain ⟨z105,hz,hm⟩:=bindE hm
  refine w_cut (fun a' w' => Fr 302 (fS [1,2,3,4,5,6] [vB y12,vB y24,vB y36,vB y48,vB z51,vB z105]) a' ∧ SH M X w [gE0] w') ?_ ?_
  ·replace hm:=hz
   apply wl_start
   obtain ⟨y106,hy106,hm⟩:=bindE hm
   have hd:=hS.hand [] [0] rfl rfl
   refine m_stp [58,1,2,3,4,5] (fS [1,2,3,4,5] [vB y12,vB y24,vB y36,vB y48,vB z51]) H rfl rfl rfl rfl (o_callx H rfl rfl (law27_decl_ok m _ _ _ hy106 _ _ hd)) (fun _ => rfl) fun _ _ v H110 hq => ?_
   clear H hd
   obtain ⟨g107,rfl,hq⟩:=hq
   replace hS : SH M X w [eO 51 tyValue y106.Value g107,gE0] _:=hS.join [] [0] rfl rfl hq
   clear hq
   have hd:=hS.hand [] [0,1] rfl rfl
   refine m_stp [59,1,2,3,4,5,58] (fS [1,2,3,4,5,58] [vB y12,vB y24,vB y36,vB y48,vB z51,vG [vS y106.Name,vL g107 y106.Value,vB y106.Important]]) H110 rfl rfl rfl rfl (o_lit (T:=tS) (E:=9) (zv:=vN) [vS [98,97,99,107,103,114,111,117,110,100,45,99,111,108,111,114],vS [86,65,82,40,45,45,98,44,32,114,101,100,41]] kL15 [gL [],gL []] _ H110 hd rfl (by kernel_rfl) (by kernel_rfl) (by kernel_rfl) (by kernel_rfl) (by kernel_rfl) (by kernel_rfl) (by kernel_rfl) rfl (InnL.cons trivial (InnL.cons trivial InnL.nil))) (fun _ => rfl) fun _ _ v H114 hq => ?_
   clear H110 hd
   obtain ⟨g111,rfl,hq⟩:=hq
   replace hS : SH M X w [eO 9 tS kL15 g111,eO 51 tyValue y106.Value g107,gE0] _:=hS.join [] [0,1] rfl rfl hq
   clear hq
   obtain ⟨y115,hy115,hm⟩:=bindE hm
   obtain ⟨x116,hx116,hm⟩:=letE hm
   refine wl_batch 2 4 [(vB y115)] [1,2,3,4,5,61] (fS [1,2,3,4,5,61] [vB y12,vB y24,vB y36,vB y48,vB z51,vB x116]) [rB 21 [vG [vS y106.Name,vL g107 y106.Value,vB y106.Important],vS [98,97,99,107,103,114,111,117,110,100],vK g111 2] (vB y115)] H114 (by decide) (by subst hx116; kernel_rfl) ⟨(law27_is_ok (g_d__0:=g107) (g_want:=g111) m _ _ _ _ hy115 _ (s0im (s0im (s0im s0nil (hS.im 2 rfl)) (hS.osl 0 rfl)) (hS.osl 1 rfl))),trivial⟩ fun _ _ H118 hb => ?_
   replace hS:=hS.below hb
   clear H114 hb
   cases x116
   case false =>
    replace hm:=bF rfl hm
    refine m_skipG 61 [62,1,2,3,4,5,61] (fS [62,1,2,3,4,5,61] [undef,vB y12,vB y24,vB y36,vB y48,vB z51,vF]) H118 rfl rfl rfl rfl rfl rfl fun _ H149 => ?_
    clear H118
    refine m_skipG 61 [63,1,2,3,4,5,61,62] (fS [63,1,2,3,4,5,61,62] [undef,vB y12,vB y24,vB y36,vB y48,vB z51,vF,undef]) H149 rfl rfl rfl rfl rfl rfl fun _ H150 => ?_
    clear H149
    refine m_skipG 61 [64,1,2,3,4,5,61] (fS [64,1,2,3,4,5,61] [undef,vB y12,vB y24,vB y36,vB y48,vB z51,vF]) H150 rfl rfl rfl rfl rfl rfl fun _ H151 => ?_
    clear H150
    refine wl_batch 7 9 [] [1,2,3,4,5,66] (fS [1,2,3,4,5,66] [vB y12,vB y24,vB y36,vB y48,vB z51,vF]) [] H151 (by decide) (by kernel_rfl) trivial fun _ _ H153 hb => ?_
    replace hS:=hS.below hb
    clear H151 hb
    refine m_skipG 66 [67,1,2,3,4,5,66] (fS [67,1,2,3,4,5,66] [undef,vB y12,vB y24,vB y36,vB y48,vB z51,vF]) H153 rfl rfl rfl rfl rfl rfl fun _ H154 => ?_
    clear H153
    refine m_skipG 66 [68,1,2,3,4,5,66,67] (fS [68,1,2,3,4,5,66,67] [undef,vB y12,vB y24,vB y36,vB y48,vB z51,vF,undef]) H154 rfl rfl rfl rfl rfl rfl fun _ H155 => ?_
    clear H154
    refine m_skipG 66 [69,1,2,3,4,5,66] (fS [69,1,2,3,4,5,66] [undef,vB y12,vB y24,vB y36,vB y48,vB z51,vF]) H155 rfl rfl rfl rfl rfl rfl fun _ H156 => ?_
    clear H155
    refine wl_batch 12 14 [] [1,2,3,4,5,6] (fS [1,2,3,4,5,6] [vB y12,vB y24,vB y36,vB y48,vB z51,vF]) [] H156 (by decide) (by kernel_rfl) trivial fun _ _ H158 hb => ?_
    replace hS:=hS.below hb
    clear H156 hb
    apply wl_end rfl
    replace hS : SH M X w [gE0] _:=hS.sel [2] rfl
    obtain rfl:=someE hm
    exact ⟨FrG.keep (ks:=[1,2,3,4,5,6]) H158 (by kernel_rfl),hS⟩
   replace hm:=bT rfl hm
   obtain ⟨y119,hy119,hm⟩:=bindE hm
   have hd:=hS.hand [] [0,1,2] rfl rfl
   refine m_stpG 61 [62,1,2,3,4,5,61] (fS [1,2,3,4,5,61] [vB y12,vB y24,vB y36,vB y48,vB z51,vT]) H118 rfl rfl rfl rfl (o_callx H118 rfl rfl (law27_decl_ok m _ _ _ hy119 _ _ hd)) (fun _ => rfl) fun _ _ v H123 hq => ?_
   clear H118 hd
   obtain ⟨g120,rfl,hq⟩:=hq
   replace hS : SH M X w [eO 51 tyValue y119.Value g120,eO 9 tS kL15 g111,eO 51 tyValue y106.Value g107,gE0] _:=hS.join [] [0,1,2] rfl rfl hq
   clear hq
   have hd:=hS.hand [] [0,1,2,3] rfl rfl
   refine m_stpG 61 [63,1,2,3,4,5,61,62] (fS [1,2,3,4,5,61,62] [vB y12,vB y24,vB y36,vB y48,vB z51,vT,vG [vS y119.Name,vL g120 y119.Value,vB y119.Important]]) H123 rfl rfl rfl rfl (o_lit (T:=tS) (E:=9) (zv:=vN) [vS [119,105,100,116,104],vS [99,97,108,99,40,49,112,120,32,43,32,118,97,114,40,45,45,119,41,41]] kL18 [gL [],gL []] _ H123 hd rfl (by kernel_rfl) (by kernel_rfl) (by kernel_rfl) (by kernel_rfl) (by kernel_rfl) (by kernel_rfl) (by kernel_rfl) rfl (InnL.cons trivial (InnL.cons trivial InnL.nil))) (fun _ => rfl) fun _ _ v H127 hq => ?_
   clear H123 hd
   obtain ⟨g124,rfl,hq⟩:=hq
   replace hS : SH M X w [eO 9 tS kL18 g124,eO 51 tyValue y119.Value g120,eO 9 tS kL15 g111,eO 51 tyValue y106.Value g107,gE0] _:=hS.join [] [0,1,2,3] rfl rfl hq
   clear hq
   obtain ⟨y128,hy128,hm⟩:=bindE hm
   obtain ⟨x129,hx129,hm⟩:=letE hm
   refine wl_batch 6 9 [(vB y128)] [1,2,3,4,5,66] (fS [1,2,3,4,5,66] [vB y12,vB y24,vB y36,vB y48,vB z51,vB x129]) [fun wz => (true = true ∧ True → RetB Tryz.prog 21 ⟨[vG [vS y119.Name,vL g120 y119.Value,vB y119.Important],vN,vK g124 2]⟩ (vB y128) wz)] H127 (by decide) (by subst hx129; kernel_rfl) ⟨fun hg => law27_is_ok (g_d__0:=g120) (g_want:=g124) m _ _ _ _ hy128 _ (s0im (s0im (s0im s0nil (hS.im 4 rfl)) (hS.osl 0 rfl)) (hS.osl 1 rfl)),trivial⟩ fun _ _ H131 hb => ?_
   replace hS:=hS.below hb
   clear H127 hb
   cases x129
   case false =>
    replace hm:=bF rfl hm
    refine m_skipG 66 [67,1,2,3,4,5,66] (fS [67,1,2,3,4,5,66] [undef,vB y12,vB y24,vB y36,vB y48,vB z51,vF]) H131 rfl rfl rfl rfl rfl rfl fun _ H144 => ?_
    clear H131
    refine m_skipG 66 [68,1,2,3,4,5,66,67] (fS [68,1,2,3,4,5,66,67] [undef,vB y12,vB y24,vB y36,vB y48,vB z51,vF,undef]) H144 rfl rfl rfl rfl rfl rfl fun _ H145 => ?_
    clear H144
    refine m_skipG 66 [69,1,2,3,4,5,66] (fS [69,1,2,3,4,5,66] [undef,vB y12,vB y24,vB y36,vB y48,vB z51,vF]) H145 rfl rfl rfl rfl rfl rfl fun _ H146 => ?_
    clear H145
    refine wl_batch 12 14 [] [1,2,3,4,5,6] (fS [1,2,3,4,5,6] [vB y12,vB y24,vB y36,vB y48,vB z51,vF]) [] H146 (by decide) (by kernel_rfl) trivial fun _ _ H148 hb => ?_
    replace hS:=hS.below hb
    clear H146 hb
    apply wl_end rfl
    replace hS : SH M X w [gE0] _:=hS.sel [4] rfl
    obtain rfl:=someE hm
    exact ⟨FrG.keep (ks:=[1,2,3,4,5,6]) H148 (by kernel_rfl),hS⟩
   replace hm:=bT rfl hm
   obtain ⟨y132,hy132,hm⟩:=bindE hm
   have hd:=hS.hand [] [0,1,2,3,4] rfl rfl
   refine m_stpG 66 [67,1,2,3,4,5,66] (fS [1,2,3,4,5,66] [vB y12,vB y24,vB y36,vB y48,vB z51,vT]) H131 rfl rfl rfl rfl (o_callx H131 rfl rfl (law27_decl_ok m _ _ _ hy132 _ _ hd)) (fun _ => rfl) fun _ _ v H136 hq => ?_
   clear H131 hd
   obtain ⟨g133,rfl,hq⟩:=hq
   replace hS : SH M X w [eO 51 tyValue y132.Value g133,eO 9 tS kL18 g124,eO 51 tyValue y119.Value g120,eO 9 tS kL15 g111,eO 51 tyValue y106.Value g107,gE0] _:=hS.join [] [0,1,2,3,4] rfl rfl hq
   clear hq
   have hd:=hS.hand [] [0,1,2,3,4,5] rfl rfl
   refine m_stpG 66 [68,1,2,3,4,5,66,67] (fS [1,2,3,4,5,66,67] [vB y12,vB y24,vB y36,vB y48,vB z51,vT,vG [vS y132.Name,vL g133 y132.Value,vB y132.Important]]) H136 rfl rfl rfl rfl (o_lit (T:=tS) (E:=9) (zv:=vN) [vS [45,45,118],vS [49,32,118,97,114,40,45,45,118,41]] kL25 [gL [],gL []] _ H136 hd rfl (by kernel_rfl) (by kernel_rfl) (by kernel_rfl) (by kernel_rfl) (by kernel_rfl) (by kernel_rfl) (by kernel_rfl) rfl (InnL.cons trivial (InnL.cons trivial InnL.nil))) (fun _ => rfl) fun _ _ v H140 hq => ?_
   clear H136 hd
   obtain ⟨g137,rfl,hq⟩:=hq
   replace hS : SH M X w [eO 9 tS kL25 g137,eO 51 tyValue y132.Value g133,eO 9 tS kL18 g124,eO 51 tyValue y119.Value g120,eO 9 tS kL15 g111,eO 51 tyValue y106.Value g107,gE0] _:=hS.join [] [0,1,2,3,4,5] rfl rfl hq
   clear hq
   obtain ⟨y141,hy141,hm⟩:=bindE hm
   refine wl_batch 11 14 [(vB y141)] [1,2,3,4,5,6] (fS [1,2,3,4,5,6] [vB y12,vB y24,vB y36,vB y48,vB z51,vB y141]) [fun wz => (true = true ∧ True → RetB Tryz.prog 21 ⟨[vG [vS y132.Name,vL g133 y132.Value,vB y132.Important],vN,vK g137 2]⟩ (vB y141) wz)] H140 (by decide) (by kernel_rfl) ⟨fun hg => law27_is_ok (g_d__0:=g133) (g_want:=g137) m _ _ _ _ hy141 _ (s0im (s0im (s0im s0nil (hS.im 6 rfl)) (hS.osl 0 rfl)) (hS.osl 1 rfl)),trivial⟩ fun _ _ H143 hb => ?_
   replace hS:=hS.below hb
   clear H140 hb
   apply wl_end rfl
   replace hS : SH M X w [gE0] _:=hS.sel [6] rfl
   obtain rfl:=someE hm
   exact ⟨FrG.keep (ks:=[1,2,3,4,5,6]) H143 (by kernel_rfl),hS⟩
  ·rintro _ _ ⟨H,hS⟩
   obtain ⟨z159,hz,hm⟩:=bindE hm
   refine w_cut (fun a' w' => Fr 302 (fS [1,2,3,4,5,6,7] [vB y12,vB y24,vB y36,vB y48,vB z51,vB z105,vB z159]) a' ∧ SH M X w [gE0] w') ?_ ?_
   ·replace hm:=hz
    apply wl_start
    obtain ⟨y160,hy160,hm⟩:=bindE hm
    have hd:=hS.hand [] [0] rfl rfl
    refine m_stp [71,1,2,3,4,5,6] (fS [1,2,3,4,5,6] [vB y12,vB y24,vB y36,vB y48,vB z51,vB z105]) H rfl rfl rfl rfl (o_callx H rfl rfl (law27_decl_ok m _ _ _ hy160 _ _ hd)) (fun _ => rfl) fun _ _ v H164 hq => ?_
    clear H hd
    obtain ⟨g161,rfl,hq⟩:=hq
    replace hS : SH M X w [eO 51 tyValue y160.Value g161,gE0] _:=hS.join [] [0] rfl rfl hq
    clear hq
    have hd:=hS.hand [] [0,1] rfl rfl
    refine m_stp [72,1,2,3,4,5,6,71] (fS [1,2,3,4,5,6,71] [vB y12,vB y24,vB y36,vB y48,vB z51,vB z105,vG [vS y160.Name,vL g161 y160.Value,vB y160.Important]]) H164 rfl rfl rfl rfl (o_lit (T:=tS) (E:=9) (zv:=vN) [vS [98,97,99,107,103,114,111,117,110,100,45,99,111,108,111,114],vS [35,102,102,102]] kL19 [gL [],gL []] _ H164 hd rfl (by kernel_rfl) (by kernel_rfl) (by kernel_rfl) (by kernel_rfl) (by kernel_rfl) (by kernel_rfl) (by kernel_rfl) rfl (InnL.cons trivial (InnL.cons trivial InnL.nil))) (fun _ => rfl) fun _ _ v H168 hq => ?_
    clear H164 hd
    obtain ⟨g165,rfl,hq⟩:=hq
    replace hS : SH M X w [eO 9 tS kL19 g165,eO 51 tyValue y160.Value g161,gE0] _:=hS.join [] [0,1] rfl rfl hq
    clear hq
    obtain ⟨y169,hy169,hm⟩:=bindE hm
    obtain ⟨x170,hx170,hm⟩:=letE hm
    refine wl_batch 2 4 [(vB y169)] [1,2,3,4,5,6,74] (fS [1,2,3,4,5,6,74] [vB y12,vB y24,vB y36,vB y48,vB z51,vB z105,vB x170]) [rB 21 [vG [vS y160.Name,vL g161 y160.Value,vB y160.Important],vN,vK g165 2] (vB y169)] H168 (by decide) (by subst hx170; kernel_rfl) ⟨(law27_is_ok (g_d__0:=g161) (g_want:=g165) m _ _ _ _ hy169 _ (s0im (s0im (s0im s0nil (hS.im 2 rfl)) (hS.osl 0 rfl)) (hS.osl 1 rfl))),trivial⟩ fun _ _ H172 hb => ?_
    replace hS:=hS.below hb
    clear H168 hb
    cases x170
    case false =>
     replace hm:=bF rfl hm
     refine m_skipG 74 [75,1,2,3,4,5,6,74] (fS [75,1,2,3,4,5,6,74] [undef,vB y12,vB y24,vB y36,vB y48,vB z51,vB z105,vF]) H172 rfl rfl rfl rfl rfl rfl fun _ H185 => ?_
     clear H172
     refine m_skipG 74 [76,1,2,3,4,5,6,74,75] (fS [76,1,2,3,4,5,6,74,75] [undef,vB y12,vB y24,vB y36,vB y48,vB z51,vB z105,vF,undef]) H185 rfl rfl rfl rfl rfl rfl fun _ H186 => ?_
     clear H185
     refine m_skipG 74 [77,1,2,3,4,5,6,74] (fS [77,1,2,3,4,5,6,74] [undef,vB y12,vB y24,vB y36,vB y48,vB z51,vB z105,vF]) H186 rfl rfl rfl rfl rfl rfl fun _ H187 => ?_
     clear H186
     refine wl_batch 7 9 [] [1,2,3,4,5,6,7] (fS [1,2,3,4,5,6,7] [vB y12,vB y24,vB y36,vB y48,vB z51,vB z105,vF]) [] H187 (by decide) (by kernel_rfl) trivial fun _ _ H189 hb => ?_
     replace hS:=hS.below hb
     clear H187 hb
     apply wl_end rfl
     replace hS : SH M X w [gE0] _:=hS.sel [2] rfl
     obtain rfl:=someE hm
     exact ⟨FrG.keep (ks:=[1,2,3,4,5,6,7]) H189 (by kernel_rfl),hS⟩
    replace hm:=bT rfl hm
    obtain ⟨y173,hy173,hm⟩:=bindE hm
    have hd:=hS.hand [] [0,1,2] rfl rfl
    refine m_stpG 74 [75,1,2,3,4,5,6,74] (fS [1,2,3,4,5,6,74] [vB y12,vB y24,vB y36,vB y48,vB z51,vB z105,vT]) H172 rfl rfl rfl rfl (o_callx H172 rfl rfl (law27_decl_ok m _ _ _ hy173 _ _ hd)) (fun _ => rfl) fun _ _ v H177 hq => ?_
    clear H172 hd
    obtain ⟨g174,rfl,hq⟩:=hq
    replace hS : SH M X w [eO 51 tyValue y173.Value g174,eO 9 tS kL19 g165,eO 51 tyValue y160.Value g161,gE0] _:=hS.join [] [0,1,2] rfl rfl hq
    clear hq
    have hd:=hS.hand [] [0,1,2,3] rfl rfl
    refine m_stpG 74 [76,1,2,3,4,5,6,74,75] (fS [1,2,3,4,5,6,74,75] [vB y12,vB y24,vB y36,vB y48,vB z51,vB z105,vT,vG [vS y173.Name,vL g174 y173.Value,vB y173.Important]]) H177 rfl rfl rfl rfl (o_lit (T:=tS) (E:=9) (zv:=vN) [vS [98,111,114,100,101,114,45,99,111,108,111,114],vS [99,117,114,114,101,110,116,99,111,108,111,114]] kL26 [gL [],gL []] _ H177 hd rfl (by kernel_rfl) (by kernel_rfl) (by kernel_rfl) (by kernel_rfl) (by kernel_rfl) (by kernel_rfl) (by kernel_rfl) rfl (InnL.cons trivial (InnL.cons trivial InnL.nil))) (fun _ => rfl) fun _ _ v H181 hq => ?_
    clear H177 hd
    obtain ⟨g178,rfl,hq⟩:=hq
    replace hS : SH M X w [eO 9 tS kL26 g178,eO 51 tyValue y173.Value g174,eO 9 tS kL19 g165,eO 51 tyValue y160.Value g161,gE0] _:=hS.join [] [0,1,2,3] rfl rfl hq
    clear hq
    obtain ⟨y182,hy182,hm⟩:=bindE hm
    refine wl_batch 6 9 [(vB y182)] [1,2,3,4,5,6,7] (fS [1,2,3,4,5,6,7] [vB y12,vB y24,vB y36,vB y48,vB z51,vB z105,vB y182]) [fun wz => (true = true ∧ True → RetB Tryz.prog 21 ⟨[vG [vS y173.Name,vL g174 y173.Value,vB y173.Important],vN,vK g178 2]⟩ (vB y182) wz)] H181 (by decide) (by kernel_rfl) ⟨fun hg => law27_is_ok (g_d__0:=g174) (g_want:=g178) m _ _ _ _ hy182 _ (s0im (s0im (s0im s0nil (hS.im 4 rfl)) (hS.osl 0 rfl)) (hS.osl 1 rfl)),trivial⟩ fun _ _ H184 hb => ?_
    replace hS:=hS.below hb
    clear H181 hb
    apply wl_end rfl
    replace hS : SH M X w [gE0] _:=hS.sel [4] rfl
    obtain rfl:=someE hm
    exact ⟨FrG.keep (ks:=[1,2,3,4,5,6,7]) H184 (by kernel_rfl),hS⟩
   ·rintro _ _ ⟨H,hS⟩
    apply w_seq
    apply wl_start
    have hd:=hS.hand [] [0] rfl rfl
    refine m_stp [79,1,2,3,4,5,6,7] (fS [1,2,3,4,5,6,7] [vB y12,vB y24,vB y36,vB y48,vB z51,vB z105,vB z159]) H rfl rfl rfl rfl (o_lit (T:=tS) (E:=9) (zv:=vN) [vN,vS [49,112,120,32,50,112,120,32,51,112,120,32,52,112,120,32,53,112,120],vS [49,112,120,32,105,110,104,101,114,105,116],vS [49,112,120,47,50,112,120],vS [40,49,112,120,41],vS [49],vS [97,117,116,111,32,97,117,116,111,32,97,117,116,111,32,110,111,110,101],vS [114,101,100],vS [49,112,120,44,50,112,120]] kL8 [gL [],gL [],gL [],gL [],gL [],gL [],gL [],gL [],gL []] _ H hd rfl (by kernel_rfl) (by kernel_rfl) (by kernel_rfl) (by kernel_rfl) (by kernel_rfl) (by kernel_rfl) (by kernel_rfl) rfl (InnL.cons trivial (InnL.cons trivial (InnL.cons trivial (InnL.cons trivial (InnL.cons trivial (InnL.cons trivial (InnL.cons trivial (InnL.cons trivial (InnL.cons trivial InnL.nil)))))))))) (fun _ => rfl) fun _ _ v H193 hq => ?_
    clear H hd
    obtain ⟨g190,rfl,hq⟩:=hq
    replace hS : SH M X w [eO 9 tS kL8 g190,gE0] _:=hS.join [] [0] rfl rfl hq
    clear hq
    refine wl_batch 1 2 [] [1,2,3,4,5,6,7,8] (fS [1,2,3,4,5,6,7,8] [vB y12,vB y24,vB y36,vB y48,vB z51,vB z105,vB z159,vK g190 9]) [] H193 (by decide) (by kernel_rfl) trivial fun _ _ H195 hb => ?_
    replace hS:=hS.below hb
    clear H193 hb
    apply wl_end rfl
    obtain ⟨z196,hz,hm_z196⟩:=bindE hm
    refine w_cut (fun a' w' => ∃ s_z196 : Unit,z196 = Sum.inr s_z196 ∧ Fr 302 (fS [1,2,3,4,5,6,7] [vB y12,vB y24,vB y36,vB y48,vB z51,vB z105,vB z159]) a' ∧ SH M X w [eO 9 tS kL8 g190,gE0] w') ?_ ?_
    ·replace hm:=hz
     refine s_reg [] [1,2,3,4,5,6,7,8,9] (fS [1,2,3,4,5,6,7,8,9] [vB y12,vB y24,vB y36,vB y48,vB z51,vB z105,vB z159,vK g190 9,vI 0]) [] H195 (by kernel_rfl) trivial fun _ _ H198 hb => ?_
     replace hS:=hS.below hb
     clear H195 hb
     apply w_block
     refine w_loop (fun kk a' w' => ∃ (v199 : Int),law27_ShortNames_L1 m  kk v199 = some _ ∧ Fr 302 (fS [1,2,3,4,5,6,7,8,9] [vB y12,vB y24,vB y36,vB y48,vB z51,vB z105,vB z159,vK g190 9,vI v199]) a' ∧ SH M X w [eO 9 tS kL8 g190,gE0] w') ⟨_,0,hm,FrG.keep (ks:=[1,2,3,4,5,6,7,8,9]) H198 (by kernel_rfl),hS⟩ ?_
     clear hm H198 hS
     rintro kk _ _ ⟨v199,hm,H,hS⟩
     cases kk with
     | zero => exact noneE hm
     | succ kk =>
      rw [law27_ShortNames_L1] at hm
      apply w_seq
      refine s_reg [] [1,2,3,4,5,6,7,8,9,83] (fS [1,2,3,4,5,6,7,8,9,83] [vB y12,vB y24,vB y36,vB y48,vB z51,vB z105,vB z159,vK g190 9,vI v199,vB (decide (v199 < 9))]) [] H (by kernel_rfl) trivial fun _ _ H201 hb => ?_
      replace hS:=hS.below hb
      clear H hb
      refine w_if H201 rfl (fun hc => ?_) (fun hc => ?c219)
      case c219 =>
       replace hm:=bF hc hm
       apply w_exit rfl
       obtain rfl:=someE hm
       exact ⟨_,rfl,FrG.keep (ks:=[1,2,3,4,5,6,7]) H201 (by kernel_rfl),hS⟩
      replace hm:=bT hc hm
      apply w_skip
      apply w_seq
      apply w_block
      apply w_seq
      apply wl_start
      obtain ⟨ho202,hm⟩:=chkE hm
      obtain ⟨x203,hx203,hm⟩:=letE hm
      refine wl_batch 0 4 [(vS (gi kL8 v199))] [1,2,3,4,5,6,7,8,9,89] (fS [1,2,3,4,5,6,7,8,9,89] [vB y12,vB y24,vB y36,vB y48,vB z51,vB z105,vB z159,vK g190 9,vI v199,vS x203]) [fun _ => oka g190.a ∧ 0 ≤ v199 ∧ v199 < ln kL8,fun wz => V.at1 ⟨ab g190.a,ao g190.a + (v199).toNat * 1,none⟩ (vS (gi kL8 v199)) wz] H201 (by decide) (by subst hx203; kernel_rfl) ⟨((hS.osl 0 rfl).oki ho202),((hS.osl 0 rfl).at1 ho202 0 rfl),trivial⟩ fun _ _ H205 hb => ?_
      replace hS:=hS.below hb
      clear H201 hb
      obtain ⟨y206,hy206,hm⟩:=bindE hm
      have hd:=hS.hand [] [0,1] rfl rfl
      refine m_stp [90,1,2,3,4,5,6,7,8,9] (fS [1,2,3,4,5,6,7,8,9] [vB y12,vB y24,vB y36,vB y48,vB z51,vB z105,vB z159,vK g190 9,vI v199]) H205 rfl rfl rfl rfl (o_callx H205 rfl rfl (law27_decl_ok m _ _ _ hy206 _ _ hd)) (fun _ => rfl) fun _ _ v H210 hq => ?_
      clear H205 hd
      obtain ⟨g207,rfl,hq⟩:=hq
      replace hS : SH M X w [eO 51 tyValue y206.Value g207,eO 9 tS kL8 g190,gE0] _:=hS.join [] [0,1] rfl rfl hq
      clear hq
      obtain ⟨y211,hy211,hm⟩:=bindE hm
      refine wl_batch 5 7 [(vB y211)] [1,2,3,4,5,6,7,8,9,92] (fS [1,2,3,4,5,6,7,8,9,92] [vB y12,vB y24,vB y36,vB y48,vB z51,vB z105,vB z159,vK g190 9,vI v199,vB (!y211)]) [rB 23 [vG [vS y206.Name,vL g207 y206.Value,vB y206.Important],vI 12] (vB y211)] H210 (by decide) (by kernel_rfl) ⟨(law27_none_ok (g_d__0:=g207) m _ _ _ hy211 _ (s0im (s0im s0nil (hS.im 2 rfl)) (hS.osl 0 rfl))),trivial⟩ fun _ _ H213 hb => ?_
      replace hS:=hS.below hb
      clear H210 hb
      apply wl_end rfl
      replace hS : SH M X w [eO 9 tS kL8 g190,gE0] _:=hS.sel [1,2] rfl
      refine w_if H213 rfl (fun hc => ?_) (fun hc => ?c218)
      case c218 =>
       replace hm:=bF hc hm
       apply w_skip
       refine w_reg [] [1,2,3,4,5,6,7,8,9] (fS [1,2,3,4,5,6,7,8,9] [vB y12,vB y24,vB y36,vB y48,vB z51,vB z105,vB z159,vK g190 9,vI (w64 (v199 + 1))]) [] H213 (by kernel_rfl) trivial fun _ _ H217 hb => ?_
       replace hS:=hS.below hb
       clear H213 hb
       exact ⟨_,Nat.lt_succ_self _,w64 (v199 + 1),hm,FrG.keep (ks:=[1,2,3,4,5,6,7,8,9]) H217 (by kernel_rfl),hS⟩
      replace hm:=bT hc hm
      refine s_reg [] [0] [(0,[],vF)] [] H213 (by kernel_rfl) trivial fun _ _ H215 hb => ?_
      replace hS:=hS.below hb
      clear H213 hb
      apply w_ret
      obtain rfl:=someE hm
      have hm:=hm_z196
      obtain rfl:=someE hm
      exact retR1 H215 rfl rfl ⟨_,rfl,rfl,(hS.sel [] rfl)⟩
    ·rintro _ _ ⟨s_z196,hz,H,hS⟩
     subst hz
     replace hm:=sumR hm_z196
     replace hS : SH M X w [gE0] _:=hS.sel [1] rfl
     apply w_seq
     apply wl_start
     obtain ⟨y221,hy221,hm⟩:=bindE hm
     have hd:=hS.hand [] [0] rfl rfl
     refine m_stp [93,1,2,3,4,5,6,7] (fS [1,2,3,4,5,6,7] [vB y12,vB y24,vB y36,vB y48,vB z51,vB z105,vB z159]) H rfl rfl rfl rfl (o_callx H rfl rfl (law27_decl_ok m _ _ _ hy221 _ _ hd)) (fun _ => rfl) fun _ _ v H225 hq => ?_
     clear H hd
     obtain ⟨g222,rfl,hq⟩:=hq
     replace hS : SH M X w [eO 51 tyValue y221.Value g222,gE0] _:=hS.join [] [0] rfl rfl hq
     clear hq
     have hd:=hS.hand [] [0,1] rfl rfl
     refine m_stp [10,1,2,3,4,5,6,7,93] (fS [1,2,3,4,5,6,7,93] [vB y12,vB y24,vB y36,vB y48,vB z51,vB z105,vB z159,vG [vS y221.Name,vL g222 y221.Value,vB y221.Important]]) H225 rfl rfl rfl rfl (o_alloc [vN,vO,vF] (z:=vG [vN,vO,vF]) hd (by kernel_rfl) rfl) (fun _ => rfl) fun _ _ v H228 hq => ?_
     clear H225 hd
     obtain ⟨b226,rfl,hq⟩:=hq
     replace hS : SH M X w [eB b226 [vN,vO,vF],eO 51 tyValue y221.Value g222,gE0] _:=hS.join [] [0,1] rfl rfl hq
     clear hq
     have hd:=hS.hand [0] [1,2] rfl rfl
     refine m_stp0 [1,2,3,4,5,6,7,10] (fS [1,2,3,4,5,6,7,10] [vB y12,vB y24,vB y36,vB y48,vB z51,vB z105,vB z159,vP b226]) H228 rfl rfl rfl (o_store [vS y221.Name,vL g222 y221.Value,vB y221.Important] H228 hd rfl rfl (by kernel_rfl) rfl rfl rfl) rfl fun _ _ H230 hq => ?_
     clear H228 hd
     obtain ⟨_,hq⟩:=hq
     replace hS : SH M X w [eB b226 [vS y221.Name,vL g222 y221.Value,vB y221.Important],eO 51 tyValue y221.Value g222,gE0] _:=hS.join [0] [1,2] rfl rfl hq
     clear hq
     apply wl_end rfl
     apply w_seq
     apply wl_start
     refine wl_batch 0 4 [(vL g222 y221.Value)] [1,2,3,4,5,6,7,10,95,97] (fS [1,2,3,4,5,6,7,10,95,97] [vB y12,vB y24,vB y36,vB y48,vB z51,vB z105,vB z159,vP b226,vL g222 y221.Value,vG [vU 13,vN,vI 0,vN,vF,vO]]) [rA b226 1 (vL g222 y221.Value)] H230 (by decide) (by kernel_rfl) ⟨((hS.bk 0 rfl).at1 rfl),trivial⟩ fun _ _ H232 hb => ?_
     replace hS:=hS.below hb
     clear H230 hb
     have hd:=hS.hand [] [0,1,2] rfl rfl
     refine m_stp [98,1,2,3,4,5,6,7,10,95] (fS [1,2,3,4,5,6,7,10,95] [vB y12,vB y24,vB y36,vB y48,vB z51,vB z105,vB z159,vP b226,vL g222 y221.Value]) H232 rfl rfl rfl rfl (o_lit (T:=tyValue) (E:=51) (zv:=vG [vU 0,vN,vI 0,vN,vF,vO]) [vU 13,vN,vI 0,vN,vF,vO] ([(TValue.mk (TToken.mk 13 [] 0 [] false) [])] : List TValue) [gL [Gh.nil]] _ H232 hd rfl (by kernel_rfl) (by kernel_rfl) (by kernel_rfl) (by kernel_rfl) (by kernel_rfl) (by kernel_rfl) (by kernel_rfl) rfl (InnL.cons (tyValue_mk SlG.nil) InnL.nil)) (fun _ => rfl) fun _ _ v H236 hq => ?_
     clear H232 hd
     obtain ⟨g233,rfl,hq⟩:=hq
     replace hS : SH M X w [eO 51 tyValue ([(TValue.mk (TToken.mk 13 [] 0 [] false) [])] : List TValue) g233,eB b226 [vS y221.Name,vL g222 y221.Value,vB y221.Important],eO 51 tyValue y221.Value g222,gE0] _:=hS.join [] [0,1,2] rfl rfl hq
     clear hq
     obtain ⟨ho237,hm⟩:=chkE hm
     obtain ⟨q238,hq238,hm⟩:=letE hm
     have hd:=hS.hand [2,0] [1,3] rfl rfl
     refine m_stp [99,1,2,3,4,5,6,7,10] (fS [1,2,3,4,5,6,7,10] [vB y12,vB y24,vB y36,vB y48,vB z51,vB z105,vB z159,vP b226]) H236 rfl rfl rfl rfl (o_app2 (T:=tyValue) (zv:=vG [vU 0,vN,vI 0,vN,vF,vO]) (g1:=g222) (g2:=g233) (l1:=y221.Value) (l2:=([(TValue.mk (TToken.mk 13 [] 0 [] false) [])] : List TValue)) q238 hq238.symm H236 hd rfl rfl rfl rfl rfl rfl rfl (by kernel_rfl) (by kernel_rfl) rfl rfl ho237) (fun _ => rfl) fun _ _ v H240 hq => ?_
     clear H236 hd
     obtain ⟨g241,rfl,hq⟩:=hq
     replace hS : SH M X w [eO 51 tyValue q238 g241,eO 51 tyValue ([(TValue.mk (TToken.mk 13 [] 0 [] false) [])] : List TValue) g233,eB b226 [vS y221.Name,vL g222 y221.Value,vB y221.Important],gE0] _:=hS.join [2,0] [1,3] rfl rfl hq
     clear hq
     refine wl_batch 6 7 [] [1,2,3,4,5,6,7,10,99,100] (fS [1,2,3,4,5,6,7,10,99,100] [vB y12,vB y24,vB y36,vB y48,vB z51,vB z105,vB z159,vP b226,vL g241 q238,vA b226 1]) [] H240 (by decide) (by kernel_rfl) trivial fun _ _ H243 hb => ?_
     replace hS:=hS.below hb
     clear H240 hb
     have hd:=hS.hand [2] [0,1,3] rfl rfl
     refine m_stp0 [1,2,3,4,5,6,7,10] (fS [1,2,3,4,5,6,7,10] [vB y12,vB y24,vB y36,vB y48,vB z51,vB z105,vB z159,vP b226]) H243 rfl rfl rfl (o_store [vS y221.Name,vL g241 q238,vB y221.Important] H243 hd rfl rfl (by kernel_rfl) rfl rfl rfl) rfl fun _ _ H245 hq => ?_
     clear H243 hd
     obtain ⟨_,hq⟩:=hq
     replace hS : SH M X w [eB b226 [vS y221.Name,vL g241 q238,vB y221.Important],eO 51 tyValue q238 g241,eO 51 tyValue ([(TValue.mk (TToken.mk 13 [] 0 [] false) [])] : List TValue) g233,gE0] _:=hS.join [2] [0,1,3] rfl rfl hq
     clear hq
     apply wl_end rfl
     replace hS : SH M X w [eB b226 [vS y221.Name,vL g241 q238,vB y221.Important],eO 51 tyValue q238 g241,gE0] _:=hS.sel [0,1,3] rfl
     apply w_seq
     apply wl_start
     obtain ⟨y246,hy246,hm⟩:=bindE hm
     have hd:=hS.hand [] [0,1,2] rfl rfl
     refine m_stp [101,1,2,3,4,5,6,7,10] (fS [1,2,3,4,5,6,7,10] [vB y12,vB y24,vB y36,vB y48,vB z51,vB z105,vB z159,vP b226]) H245 rfl rfl rfl rfl (o_callx H245 rfl rfl (law27_decl_ok m _ _ _ hy246 _ _ hd)) (fun _ => rfl) fun _ _ v H250 hq => ?_
     clear H245 hd
     obtain ⟨g247,rfl,hq⟩:=hq
     replace hS : SH M X w [eO 51 tyValue y246.Value g247,eB b226 [vS y221.Name,vL g241 q238,vB y221.Important],eO 51 tyValue q238 g241,gE0] _:=hS.join [] [0,1,2] rfl rfl hq
     clear hq
     have hd:=hS.hand [] [0,1,2,3] rfl rfl
     refine m_stp [11,1,2,3,4,5,6,7,10,101] (fS [1,2,3,4,5,6,7,10,101] [vB y12,vB y24,vB y36,vB y48,vB z51,vB z105,vB z159,vP b226,vG [vS y246.Name,vL g247 y246.Value,vB y246.Important]]) H250 rfl rfl rfl rfl (o_alloc [vN,vO,vF] (z:=vG [vN,vO,vF]) hd (by kernel_rfl) rfl) (fun _ => rfl) fun _ _ v H253 hq => ?_
     clear H250 hd
     obtain ⟨b251,rfl,hq⟩:=hq
     replace hS : SH M X w [eB b251 [vN,vO,vF],eO 51 tyValue y246.Value g247,eB b226 [vS y221.Name,vL g241 q238,vB y221.Important],eO 51 tyValue q238 g241,gE0] _:=hS.join [] [0,1,2,3] rfl rfl hq
     clear hq
     have hd:=hS.hand [0] [1,2,3,4] rfl rfl
     refine m_stp0 [1,2,3,4,5,6,7,10,11] (fS [1,2,3,4,5,6,7,10,11] [vB y12,vB y24,vB y36,vB y48,vB z51,vB z105,vB z159,vP b226,vP b251]) H253 rfl rfl rfl (o_store [vS y246.Name,vL g247 y246.Value,vB y246.Important] H253 hd rfl rfl (by kernel_rfl) rfl rfl rfl) rfl fun _ _ H255 hq => ?_
     clear H253 hd
     obtain ⟨_,hq⟩:=hq
     replace hS : SH M X w [eB b251 [vS y246.Name,vL g247 y246.Value,vB y246.Important],eO 51 tyValue y246.Value g247,eB b226 [vS y221.Name,vL g241 q238,vB y221.Important],eO 51 tyValue q238 g241,gE0] _:=hS.join [0] [1,2,3,4] rfl rfl hq
     clear hq
     apply wl_end rfl
     replace hS : SH M X w [eI tyValue y246.Value g247,eB b251 [vS y246.Name,vL g247 y246.Value,vB y246.Important],eB b226 [vS y221.Name,vL g241 q238,vB y221.Important],eO 51 tyValue q238 g241,gE0] _:=SH.frz1 (hS.sel [1,0,2,3,4] rfl)
     obtain ⟨ho257,hm⟩:=chkE hm
     obtain ⟨q258,hq258,hm⟩:=letE hm
     obtain ⟨ho263,hm⟩:=chkE hm
     obtain ⟨q264,hq264,hm⟩:=letE hm
     obtain ⟨ho267,hm⟩:=chkE hm
     obtain ⟨q268,hq268,hm⟩:=letE hm
     obtain ⟨ho270,hm⟩:=chkE hm
     obtain ⟨ho271,hm⟩:=chkE hm
     obtain ⟨q272,hq272,hm⟩:=letE hm
     refine s_drawS (base:=(fS [1,2,3,4,5,6,7,10,11] [vB y12,vB y24,vB y36,vB y48,vB z51,vB z105,vB z159,vP b226,vP b251])) (L:=[eI tyValue y246.Value g247,eB b251 [vS y246.Name,vL g247 y246.Value,vB y246.Important],eB b226 [vS y221.Name,vL g241 q238,vB y221.Important],eO 51 tyValue q238 g241,gE0]) 13 5 (fun yg256 => [vA b251 1,vL g247 y246.Value,.slice (Gh.mk (yg256 2 0).a q258.length (yg256 2 0).s).a q258.length (Gh.mk (yg256 2 0).a q258.length (yg256 2 0).s).c,vG [vU 13,vN,vI 0,vN,vF],vG [vU 13,vN,vI 0,vN,vF,vO],vK (yg256 5 0) 1,vA b251 1,vL g247 y246.Value,.slice (yg256 8 0).a q264.length (yg256 8 0).c,.slice (yg256 9 0).a q268.length (yg256 9 0).c,.slice (yg256 10 0).a q272.length (yg256 10 0).c,vA b251 1,undef]) (fun yg256 => [[],[],[eI tyValue q258 (Gh.mk (yg256 2 0).a q258.length (yg256 2 0).s)],[],[],[eO 51 tyValue ([(TValue.mk (TToken.mk 13 [] 0 [] false) [])] : List TValue) (yg256 5 0)],[],[],[eI tyValue q264 (yg256 8 0)],[eO 51 tyValue q268 (yg256 9 0)],[eO 51 tyValue q272 (yg256 10 0),eI tyValue q268 (yg256 9 0)],[],[eB b251 [vS y246.Name,.slice (yg256 10 0).a q272.length (yg256 10 0).c,vB y246.Important]]]) [[13,14],[13,14],[13],[],[],[],[13,14],[13,14],[13],[5,8],[2,9],[13,14],[10,13,14]] [[],[],[],[],[],[],[],[],[],[5],[9],[],[14]] [[0],[0,1],[0,1,2],[3],[3,4],[3,4,5],[6],[6,7],[6,7,8],[3,4,5,6,7,8,9],[0,1,2,3,4,5,6,7,8,9,10],[11],[0,1,2,3,4,5,6,7,8,9,10,11,12]] [] (FrG.keep (ks:=[1,2,3,4,5,6,7,10,11]) H255 (by kernel_rfl)) (fun _ _ h => by cases h) (by kernel_rfl) hS (by kernel_rfl) rfl rfl (by kernel_rfl) (by kernel_rfl) (by kernel_rfl) (gd_none (by kernel_rfl) _ _) ?hloc_yg256 ?hstep_yg256 fun _ _ yg256 H276 hv hS => ?hK_yg256
     case hloc_yg256 => exact ⟨(fun _ _ _ _ => ⟨rfl,rfl⟩),(fun _ _ _ _ => ⟨rfl,rfl⟩),(fun _ i g hi => lcG [2] (fun yg256 => (.slice (Gh.mk (yg256 2 0).a q258.length (yg256 2 0).s).a q258.length (Gh.mk (yg256 2 0).a q258.length (yg256 2 0).s).c,[eI tyValue q258 (Gh.mk (yg256 2 0).a q258.length (yg256 2 0).s)])) hi rfl),(fun _ _ _ _ => ⟨rfl,rfl⟩),(fun _ _ _ _ => ⟨rfl,rfl⟩),(fun _ i g hi => lcG [5] (fun yg256 => (vK (yg256 5 0) 1,[eO 51 tyValue ([(TValue.mk (TToken.mk 13 [] 0 [] false) [])] : List TValue) (yg256 5 0)])) hi rfl),(fun _ _ _ _ => ⟨rfl,rfl⟩),(fun _ _ _ _ => ⟨rfl,rfl⟩),(fun _ i g hi => lcG [8] (fun yg256 => (.slice (yg256 8 0).a q264.length (yg256 8 0).c,[eI tyValue q264 (yg256 8 0)])) hi rfl),(fun _ i g hi => lcG [9] (fun yg256 => (.slice (yg256 9 0).a q268.length (yg256 9 0).c,[eO 51 tyValue q268 (yg256 9 0)])) hi rfl),(fun _ i g hi => lcG [9,10] (fun yg256 => (.slice (yg256 10 0).a q272.length (yg256 10 0).c,[eO 51 tyValue q272 (yg256 10 0),eI tyValue q268 (yg256 9 0)])) hi rfl),(fun _ _ _ _ => ⟨rfl,rfl⟩),(fun _ i g hi => lcG [10] (fun yg256 => (undef,[eB b251 [vS y246.Name,.slice (yg256 10 0).a q272.length (yg256 10 0).c,vB y246.Important]])) hi rfl),trivial⟩
     case hstep_yg256 =>
      refine ⟨?_,?_,?_,?_,?_,?_,?_,?_,?_,?_,?_,?_,?_,trivial⟩
      ·intro o ho a w yg256 M Hb hv hO hS
       obtain rfl:=someE ho
       exact Stp.mono (o_evs [] (vA b251 1) none [] Hb rfl (by kernel_rfl) (fun q e => by cases e)) fun _ _ hq => ⟨gL [],fun _ _ => hq.1,(hS.below hq.2.below).sel [0,1] rfl⟩
      ·intro o ho a w yg256 M Hb hv hO hS
       obtain rfl:=someE ho
       exact Stp.mono (o_evs [(vL g247 y246.Value)] (vL g247 y246.Value) (some (rA b251 1 (vL g247 y246.Value))) [] ((Hb).add (hv 0 (by decide) (by decide) 102 rfl)) rfl (by kernel_rfl) (fun q e => by cases e; exact ((hS.bk 1 rfl).at1 rfl))) fun _ _ hq => ⟨gL [],fun _ _ => hq.1,(hS.below hq.2.below).sel [0,1] rfl⟩
      ·intro o ho a w yg256 M Hb hv hO hS0
       obtain rfl:=someE ho
       have H : Fr 302 ([(103,[],vL g247 y246.Value)] ++ (fS [1,2,3,4,5,6,7,10,11] [vB y12,vB y24,vB y36,vB y48,vB z51,vB z105,vB z159,vP b226,vP b251])) _:=(Hb).add (hv 1 (by decide) (by decide) 103 rfl)
       obtain ⟨X,hX⟩ : ∃ X,X = fpl [eI tyValue y246.Value g247]:=⟨_,rfl⟩
       have hS : SH M X w [eI tyValue y246.Value g247] w:=by rw [hX]; exact hS0
       have hd:=hS.hand [0] [0] rfl rfl
       refine Stp.mono (o_subF (T:=tyValue) (E:=51) (g:=g247) (q:=y246.Value) (2 : Int) H hd (hd.im 0 rfl) rfl rfl rfl rfl rfl rfl (by kernel_rfl) (by kernel_rfl) ho257) ?_
       rintro v w2 hq
       obtain ⟨g259,hv,hq⟩:=hq
       rw [← hq258] at hv hq
       subst hv
       replace hS : SH M X w [eI tyValue q258 (Gh.mk g259.a q258.length g259.s),eI tyValue y246.Value g247,eI tyValue y246.Value g247] _:=hS.join [0] [0] rfl rfl hq
       clear hq
       rw [hX] at hS
       exact ⟨gL [g259],fun _ _ => rfl,hS.sel [0,1] rfl⟩
      ·intro o ho a w yg256 M Hb hv hO hS
       obtain rfl:=someE ho
       exact Stp.mono (o_evs [] (vG [vU 13,vN,vI 0,vN,vF]) none [] Hb rfl (by kernel_rfl) (fun q e => by cases e)) fun _ _ hq => ⟨gL [],fun _ _ => hq.1,(hS.below hq.2.below).sel [] rfl⟩
      ·intro o ho a w yg256 M Hb hv hO hS
       obtain rfl:=someE ho
       exact Stp.mono (o_evs [] (vG [vU 13,vN,vI 0,vN,vF,vO]) none [] ((Hb).add (hv 3 (by decide) (by decide) 105 rfl)) rfl (by kernel_rfl) (fun q e => by cases e)) fun _ _ hq => ⟨gL [],fun _ _ => hq.1,(hS.below hq.2.below).sel [] rfl⟩
      ·intro o ho a w yg256 M Hb hv hO hS0
       obtain rfl:=someE ho
       have H : Fr 302 ([(106,[],vG [vU 13,vN,vI 0,vN,vF,vO])] ++ (fS [1,2,3,4,5,6,7,10,11] [vB y12,vB y24,vB y36,vB y48,vB z51,vB z105,vB z159,vP b226,vP b251])) _:=(Hb).add (hv 4 (by decide) (by decide) 106 rfl)
       obtain ⟨X,hX⟩ : ∃ X,X = fpl []:=⟨_,rfl⟩
       have hS : SH M X w [] w:=by rw [hX]; exact hS0
       have hd:=hS.hand [] [] rfl rfl
       refine Stp.mono (o_lit (T:=tyValue) (E:=51) (zv:=vG [vU 0,vN,vI 0,vN,vF,vO]) [vU 13,vN,vI 0,vN,vF,vO] ([(TValue.mk (TToken.mk 13 [] 0 [] false) [])] : List TValue) [gL [Gh.nil]] _ H hd rfl (by kernel_rfl) (by kernel_rfl) (by kernel_rfl) (by kernel_rfl) (by kernel_rfl) (by kernel_rfl) (by kernel_rfl) rfl (InnL.cons (tyValue_mk SlG.nil) InnL.nil)) ?_
       rintro v w2 hq
       obtain ⟨g261,rfl,hq⟩:=hq
       replace hS : SH M X w [eO 51 tyValue ([(TValue.mk (TToken.mk 13 [] 0 [] false) [])] : List TValue) g261] _:=hS.join [] [] rfl rfl hq
       clear hq
       rw [hX] at hS
       exact ⟨gL [g261],fun _ _ => rfl,hS.sel [0] rfl⟩
      ·intro o ho a w yg256 M Hb hv hO hS
       obtain rfl:=someE ho
       exact Stp.mono (o_evs [] (vA b251 1) none [] Hb rfl (by kernel_rfl) (fun q e => by cases e)) fun _ _ hq => ⟨gL [],fun _ _ => hq.1,(hS.below hq.2.below).sel [0,1] rfl⟩
      ·intro o ho a w yg256 M Hb hv hO hS
       obtain rfl:=someE ho
       exact Stp.mono (o_evs [(vL g247 y246.Value)] (vL g247 y246.Value) (some (rA b251 1 (vL g247 y246.Value))) [] ((Hb).add (hv 6 (by decide) (by decide) 108 rfl)) rfl (by kernel_rfl) (fun q e => by cases e; exact ((hS.bk 1 rfl).at1 rfl))) fun _ _ hq => ⟨gL [],fun _ _ => hq.1,(hS.below hq.2.below).sel [0,1] rfl⟩
      ·intro o ho a w yg256 M Hb hv hO hS0
       obtain rfl:=someE ho
       have H : Fr 302 ([(109,[],vL g247 y246.Value)] ++ (fS [1,2,3,4,5,6,7,10,11] [vB y12,vB y24,vB y36,vB y48,vB z51,vB z105,vB z159,vP b226,vP b251])) _:=(Hb).add (hv 7 (by decide) (by decide) 109 rfl)
       obtain ⟨X,hX⟩ : ∃ X,X = fpl [eI tyValue y246.Value g247]:=⟨_,rfl⟩
       have hS : SH M X w [eI tyValue y246.Value g247] w:=by rw [hX]; exact hS0
       have hd:=hS.hand [0] [0] rfl rfl
       refine Stp.mono (o_sub (T:=tyValue) (E:=51) (g:=g247) (q:=y246.Value) (2 : Int) (ln y246.Value) (.some (vI 2)) .none H hd (hd.im 0 rfl) rfl rfl rfl rfl rfl rfl (.inr ⟨_,rfl⟩) (.inl ⟨rfl,rfl⟩) (by kernel_rfl) (by kernel_rfl) ho263) ?_
       rintro v w2 hq
       obtain ⟨g265,hv,hq⟩:=hq
       rw [← hq264] at hv hq
       subst hv
       replace hS : SH M X w [eI tyValue q264 g265,eI tyValue y246.Value g247,eI tyValue y246.Value g247] _:=hS.join [0] [0] rfl rfl hq
       clear hq
       rw [hX] at hS
       exact ⟨gL [g265],fun _ _ => rfl,hS.sel [0,1] rfl⟩
      ·intro o ho a w yg256 M Hb hv hO hS0
       obtain rfl:=someE ho
       have H : Fr 302 ((fS [110,107] [.slice (yg256 8 0).a q264.length (yg256 8 0).c,vK (yg256 5 0) 1]) ++ (fS [1,2,3,4,5,6,7,10,11] [vB y12,vB y24,vB y36,vB y48,vB z51,vB z105,vB z159,vP b226,vP b251])) _:=((Hb).add (hv 5 (by decide) (by decide) 107 rfl)).add (hv 8 (by decide) (by decide) 110 rfl)
       obtain ⟨X,hX⟩ : ∃ X,X = fpl [eO 51 tyValue ([(TValue.mk (TToken.mk 13 [] 0 [] false) [])] : List TValue) (yg256 5 0),eI tyValue q264 (yg256 8 0)]:=⟨_,rfl⟩
       have hS : SH M X w [eO 51 tyValue ([(TValue.mk (TToken.mk 13 [] 0 [] false) [])] : List TValue) (yg256 5 0),eI tyValue q264 (yg256 8 0)] w:=by rw [hX]; exact hS0
       have hd:=hS.hand [0,1] [1] rfl rfl
       refine Stp.mono (o_app (T:=tyValue) (zv:=vG [vU 0,vN,vI 0,vN,vF,vO]) (g1:=(yg256 5 0)) (g2:=(yg256 8 0)) (l1:=([(TValue.mk (TToken.mk 13 [] 0 [] false) [])] : List TValue)) (l2:=q264) q268 hq268.symm H hd rfl rfl rfl rfl rfl rfl rfl (by kernel_rfl) (by kernel_rfl) rfl rfl ho267) ?_
       rintro v w2 hq
       obtain ⟨g269,rfl,hq⟩:=hq
       replace hS : SH M X w [eO 51 tyValue q268 g269,eI tyValue q264 (yg256 8 0)] _:=hS.join [0,1] [1] rfl rfl hq
       clear hq
       rw [hX] at hS
       exact ⟨gL [g269],fun _ _ => rfl,hS.sel [0,1] rfl⟩
      ·intro o ho a w yg256 M Hb hv hO hS0
       obtain rfl:=someE ho
       have H : Fr 302 ((fS [111,104] [.slice (yg256 9 0).a q268.length (yg256 9 0).c,.slice (Gh.mk (yg256 2 0).a q258.length (yg256 2 0).s).a q258.length (Gh.mk (yg256 2 0).a q258.length (yg256 2 0).s).c]) ++ (fS [1,2,3,4,5,6,7,10,11] [vB y12,vB y24,vB y36,vB y48,vB z51,vB z105,vB z159,vP b226,vP b251])) _:=((Hb).add (hv 2 (by decide) (by decide) 104 rfl)).add (hv 9 (by decide) (by decide) 111 rfl)
       obtain ⟨X,hX⟩ : ∃ X,X = fpl [eI tyValue q258 (Gh.mk (yg256 2 0).a q258.length (yg256 2 0).s),eO 51 tyValue q268 (yg256 9 0)]:=⟨_,rfl⟩
       have hS : SH M X w [eI tyValue q258 (Gh.mk (yg256 2 0).a q258.length (yg256 2 0).s),eO 51 tyValue q268 (yg256 9 0)] w:=by rw [hX]; exact hS0
       replace hS : SH M X w [eI tyValue q268 (yg256 9 0),eI tyValue q258 (Gh.mk (yg256 2 0).a q258.length (yg256 2 0).s)] _:=SH.frz1 (hS.sel [1,0] rfl)
       have hd:=hS.hand [1,0] [0,1] rfl rfl
       refine Stp.mono (o_appF (T:=tyValue) (e:=51) (zv:=vG [vU 0,vN,vI 0,vN,vF,vO]) (g1:=(Gh.mk (yg256 2 0).a q258.length (yg256 2 0).s)) (g2:=(yg256 9 0)) (l1:=q258) (l2:=q268) q272 hq272.symm H hd (hd.im 0 rfl) (hd.im 1 rfl) rfl rfl rfl rfl rfl rfl rfl rfl (by kernel_rfl) (by kernel_rfl) rfl rfl ho271 ho270) ?_
       rintro v w2 hq
       obtain ⟨g273,rfl,hq⟩:=hq
       replace hS : SH M X w [eO 51 tyValue q272 g273,eI tyValue q268 (yg256 9 0),eI tyValue q258 (Gh.mk (yg256 2 0).a q258.length (yg256 2 0).s)] _:=hS.join [1,0] [0,1] rfl rfl hq
       clear hq
       rw [hX] at hS
       exact ⟨gL [g273],fun _ _ => rfl,hS.sel [0,1,2] rfl⟩
      ·intro o ho a w yg256 M Hb hv hO hS
       obtain rfl:=someE ho
       exact Stp.mono (o_evs [] (vA b251 1) none [] Hb rfl (by kernel_rfl) (fun q e => by cases e)) fun _ _ hq => ⟨gL [],fun _ _ => hq.1,(hS.below hq.2.below).sel [0,1] rfl⟩
      ·intro o ho a w yg256 M Hb hv hO hS0
       obtain rfl:=someE ho
       have H : Fr 302 ((fS [113,112] [vA b251 1,.slice (yg256 10 0).a q272.length (yg256 10 0).c]) ++ (fS [1,2,3,4,5,6,7,10,11] [vB y12,vB y24,vB y36,vB y48,vB z51,vB z105,vB z159,vP b226,vP b251])) _:=((Hb).add (hv 10 (by decide) (by decide) 112 rfl)).add (hv 11 (by decide) (by decide) 113 rfl)
       obtain ⟨X,hX⟩ : ∃ X,X = fpl [eO 51 tyValue q272 (yg256 10 0),eI tyValue q268 (yg256 9 0),eI tyValue y246.Value g247,eB b251 [vS y246.Name,vL g247 y246.Value,vB y246.Important]]:=⟨_,rfl⟩
       have hS : SH M X w [eO 51 tyValue q272 (yg256 10 0),eI tyValue q268 (yg256 9 0),eI tyValue y246.Value g247,eB b251 [vS y246.Name,vL g247 y246.Value,vB y246.Important]] w:=by rw [hX]; exact hS0
       have hd:=hS.hand [3] [0,1,2] rfl rfl
       refine Stp.mono (o_store [vS y246.Name,.slice (yg256 10 0).a q272.length (yg256 10 0).c,vB y246.Important] H hd rfl rfl (by kernel_rfl) rfl rfl rfl) ?_
       rintro v w2 hq
       replace hS : SH M X w [eB b251 [vS y246.Name,.slice (yg256 10 0).a q272.length (yg256 10 0).c,vB y246.Important],eO 51 tyValue q272 (yg256 10 0),eI tyValue q268 (yg256 9 0),eI tyValue y246.Value g247] _:=hS.join [3] [0,1,2] rfl rfl hq
       clear hq
       rw [hX] at hS
       exact ⟨gL [],(fun _ h => by cases h),hS.sel [0,1,2,3] rfl⟩
     have H277 : Fr 302 (fS [1,2,3,4,5,6,7,10,11] [vB y12,vB y24,vB y36,vB y48,vB z51,vB z105,vB z159,vP b226,vP b251]) _:=(FrG.keep (ks:=[1,2,3,4,5,6,7,10,11]) H276 (by kernel_rfl))
     replace hS : SH M X w [eI tyValue q258 (Gh.mk (yg256 2 0).a q258.length (yg256 2 0).s),eI tyValue q264 (yg256 8 0),eO 51 tyValue q272 (yg256 10 0),eI tyValue q268 (yg256 9 0),eB b251 [vS y246.Name,.slice (yg256 10 0).a q272.length (yg256 10 0).c,vB y246.Important],eI tyValue y246.Value g247,eB b226 [vS y221.Name,vL g241 q238,vB y221.Important],eO 51 tyValue q238 g241,gE0] _:=hS
     clear hv H276
     generalize yg256 2 0 = g278 at H277 hS
     generalize yg256 8 0 = g279 at H277 hS
     generalize yg256 10 0 = g280 at H277 hS
     generalize yg256 9 0 = g281 at H277 hS
     replace hS : SH M X w [eO 51 tyValue q272 g280,eB b251 [vS y246.Name,vL g280 q272,vB y246.Important],eB b226 [vS y221.Name,vL g241 q238,vB y221.Important],eO 51 tyValue q238 g241,gE0] _:=hS.sel [2,4,6,7,8] rfl
     apply w_seq
     apply wl_start
     obtain ⟨y282,hy282,hm⟩:=bindE hm
     have hd:=hS.hand [] [0,1,2,3,4] rfl rfl
     refine m_stp [114,1,2,3,4,5,6,7,10,11] (fS [1,2,3,4,5,6,7,10,11] [vB y12,vB y24,vB y36,vB y48,vB z51,vB z105,vB z159,vP b226,vP b251]) H277 rfl rfl rfl rfl (o_callx H277 rfl rfl (law27_decl_ok m _ _ _ hy282 _ _ hd)) (fun _ => rfl) fun _ _ v H286 hq => ?_
     clear H277 hd
     obtain ⟨g283,rfl,hq⟩:=hq
     replace hS : SH M X w [eO 51 tyValue y282.Value g283,eO 51 tyValue q272 g280,eB b251 [vS y246.Name,vL g280 q272,vB y246.Important],eB b226 [vS y221.Name,vL g241 q238,vB y221.Important],eO 51 tyValue q238 g241,gE0] _:=hS.join [] [0,1,2,3,4] rfl rfl hq
     clear hq
     have hd:=hS.hand [] [0,1,2,3,4,5] rfl rfl
     refine m_stp [12,1,2,3,4,5,6,7,10,11,114] (fS [1,2,3,4,5,6,7,10,11,114] [vB y12,vB y24,vB y36,vB y48,vB z51,vB z105,vB z159,vP b226,vP b251,vG [vS y282.Name,vL g283 y282.Value,vB y282.Important]]) H286 rfl rfl rfl rfl (o_alloc [vN,vO,vF] (z:=vG [vN,vO,vF]) hd (by kernel_rfl) rfl) (fun _ => rfl) fun _ _ v H289 hq => ?_
     clear H286 hd
     obtain ⟨b287,rfl,hq⟩:=hq
     replace hS : SH M X w [eB b287 [vN,vO,vF],eO 51 tyValue y282.Value g283,eO 51 tyValue q272 g280,eB b251 [vS y246.Name,vL g280 q272,vB y246.Important],eB b226 [vS y221.Name,vL g241 q238,vB y221.Important],eO 51 tyValue q238 g241,gE0] _:=hS.join [] [0,1,2,3,4,5] rfl rfl hq
     clear hq
     have hd:=hS.hand [0] [1,2,3,4,5,6] rfl rfl
     refine m_stp0 [1,2,3,4,5,6,7,10,11,12] (fS [1,2,3,4,5,6,7,10,11,12] [vB y12,vB y24,vB y36,vB y48,vB z51,vB z105,vB z159,vP b226,vP b251,vP b287]) H289 rfl rfl rfl (o_store [vS y282.Name,vL g283 y282.Value,vB y282.Important] H289 hd rfl rfl (by kernel_rfl) rfl rfl rfl) rfl fun _ _ H291 hq => ?_
     clear H289 hd
     obtain ⟨_,hq⟩:=hq
     replace hS : SH M X w [eB b287 [vS y282.Name,vL g283 y282.Value,vB y282.Important],eO 51 tyValue y282.Value g283,eO 51 tyValue q272 g280,eB b251 [vS y246.Name,vL g280 q272,vB y246.Important],eB b226 [vS y221.Name,vL g241 q238,vB y221.Important],eO 51 tyValue q238 g241,gE0] _:=hS.join [0] [1,2,3,4,5,6] rfl rfl hq
     clear hq
     apply wl_end rfl
     replace hS : SH M X w [eI tyValue q272 g280,eB b287 [vS y282.Name,vL g283 y282.Value,vB y282.Important],eO 51 tyValue y282.Value g283,eB b251 [vS y246.Name,vL g280 q272,vB y246.Important],eB b226 [vS y221.Name,vL g241 q238,vB y221.Important],eO 51 tyValue q238 g241,gE0] _:=SH.frz1 (hS.sel [2,0,1,3,4,5,6] rfl)
     replace hS : SH M X w [eI tyValue y282.Value g283,eI tyValue q272 g280,eB b287 [vS y282.Name,vL g283 y282.Value,vB y282.Important],eB b251 [vS y246.Name,vL g280 q272,vB y246.Important],eB b226 [vS y221.Name,vL g241 q238,vB y221.Important],eO 51 tyValue q238 g241,gE0] _:=SH.frz1 (hS.sel [2,0,1,3,4,5,6] rfl)
     obtain ⟨ho293,hm⟩:=chkE hm
     obtain ⟨q294,hq294,hm⟩:=letE hm
     obtain ⟨ho297,hm⟩:=chkE hm
     obtain ⟨q298,hq298,hm⟩:=letE hm
     obtain ⟨ho301,hm⟩:=chkE hm
     obtain ⟨ho302,hm⟩:=chkE hm
     obtain ⟨q303,hq303,hm⟩:=letE hm
     refine s_drawS (base:=(fS [1,2,3,4,5,6,7,10,11,12] [vB y12,vB y24,vB y36,vB y48,vB z51,vB z105,vB z159,vP b226,vP b251,vP b287])) (L:=[eI tyValue y282.Value g283,eI tyValue q272 g280,eB b287 [vS y282.Name,vL g283 y282.Value,vB y282.Important],eB b251 [vS y246.Name,vL g280 q272,vB y246.Important],eB b226 [vS y221.Name,vL g241 q238,vB y221.Important],eO 51 tyValue q238 g241,gE0]) 9 7 (fun yg292 => [vA b287 1,vL g283 y282.Value,.slice (Gh.mk (yg292 2 0).a q294.length (yg292 2 0).s).a q294.length (Gh.mk (yg292 2 0).a q294.length (yg292 2 0).s).c,vA b287 1,vL g283 y282.Value,.slice (yg292 5 0).a q298.length (yg292 5 0).c,.slice (yg292 6 0).a q303.length (yg292 6 0).c,vA b287 1,undef]) (fun yg292 => [[],[],[eI tyValue q294 (Gh.mk (yg292 2 0).a q294.length (yg292 2 0).s)],[],[],[eI tyValue q298 (yg292 5 0)],[eO 51 tyValue q303 (yg292 6 0)],[],[eB b287 [vS y282.Name,.slice (yg292 6 0).a q303.length (yg292 6 0).c,vB y282.Important]]]) [[9,11],[9,11],[9],[9,11],[9,11],[9],[2,5],[9,11],[6,9,11]] [[],[],[],[],[],[],[],[],[11]] [[0],[0,1],[0,1,2],[3],[3,4],[3,4,5],[0,1,2,3,4,5,6],[7],[0,1,2,3,4,5,6,7,8]] [] (FrG.keep (ks:=[1,2,3,4,5,6,7,10,11,12]) H291 (by kernel_rfl)) (fun _ _ h => by cases h) (by kernel_rfl) hS (by kernel_rfl) rfl rfl (by kernel_rfl) (by kernel_rfl) (by kernel_rfl) (gd_none (by kernel_rfl) _ _) ?hloc_yg292 ?hstep_yg292 fun _ _ yg292 H307 hv hS => ?hK_yg292
     case hloc_yg292 => exact ⟨(fun _ _ _ _ => ⟨rfl,rfl⟩),(fun _ _ _ _ => ⟨rfl,rfl⟩),(fun _ i g hi => lcG [2] (fun yg292 => (.slice (Gh.mk (yg292 2 0).a q294.length (yg292 2 0).s).a q294.length (Gh.mk (yg292 2 0).a q294.length (yg292 2 0).s).c,[eI tyValue q294 (Gh.mk (yg292 2 0).a q294.length (yg292 2 0).s)])) hi rfl),(fun _ _ _ _ => ⟨rfl,rfl⟩),(fun _ _ _ _ => ⟨rfl,rfl⟩),(fun _ i g hi => lcG [5] (fun yg292 => (.slice (yg292 5 0).a q298.length (yg292 5 0).c,[eI tyValue q298 (yg292 5 0)])) hi rfl),(fun _ i g hi => lcG [6] (fun yg292 => (.slice (yg292 6 0).a q303.length (yg292 6 0).c,[eO 51 tyValue q303 (yg292 6 0)])) hi rfl),(fun _ _ _ _ => ⟨rfl,rfl⟩),(fun _ i g hi => lcG [6] (fun yg292 => (undef,[eB b287 [vS y282.Name,.slice (yg292 6 0).a q303.length (yg292 6 0).c,vB y282.Important]])) hi rfl),trivial⟩
     case hstep_yg292 =>
      refine ⟨?_,?_,?_,?_,?_,?_,?_,?_,?_,trivial⟩
      ·intro o ho a w yg292 M Hb hv hO hS
       obtain rfl:=someE ho
       exact Stp.mono (o_evs [] (vA b287 1) none [] Hb rfl (by kernel_rfl) (fun q e => by cases e)) fun _ _ hq => ⟨gL [],fun _ _ => hq.1,(hS.below hq.2.below).sel [0,1] rfl⟩
      ·intro o ho a w yg292 M Hb hv hO hS
       obtain rfl:=someE ho
       exact Stp.mono (o_evs [(vL g283 y282.Value)] (vL g283 y282.Value) (some (rA b287 1 (vL g283 y282.Value))) [] ((Hb).add (hv 0 (by decide) (by decide) 115 rfl)) rfl (by kernel_rfl) (fun q e => by cases e; exact ((hS.bk 1 rfl).at1 rfl))) fun _ _ hq => ⟨gL [],fun _ _ => hq.1,(hS.below hq.2.below).sel [0,1] rfl⟩
      ·intro o ho a w yg292 M Hb hv hO hS0
       obtain rfl:=someE ho
       have H : Fr 302 ([(116,[],vL g283 y282.Value)] ++ (fS [1,2,3,4,5,6,7,10,11,12] [vB y12,vB y24,vB y36,vB y48,vB z51,vB z105,vB z159,vP b226,vP b251,vP b287])) _:=(Hb).add (hv 1 (by decide) (by decide) 116 rfl)
       obtain ⟨X,hX⟩ : ∃ X,X = fpl [eI tyValue y282.Value g283]:=⟨_,rfl⟩
       have hS : SH M X w [eI tyValue y282.Value g283] w:=by rw [hX]; exact hS0
       have hd:=hS.hand [0] [0] rfl rfl
       refine Stp.mono (o_subF (T:=tyValue) (E:=51) (g:=g283) (q:=y282.Value) (1 : Int) H hd (hd.im 0 rfl) rfl rfl rfl rfl rfl rfl (by kernel_rfl) (by kernel_rfl) ho293) ?_
       rintro v w2 hq
       obtain ⟨g295,hv,hq⟩:=hq
       rw [← hq294] at hv hq
       subst hv
       replace hS : SH M X w [eI tyValue q294 (Gh.mk g295.a q294.length g295.s),eI tyValue y282.Value g283,eI tyValue y282.Value g283] _:=hS.join [0] [0] rfl rfl hq
       clear hq
       rw [hX] at hS
       exact ⟨gL [g295],fun _ _ => rfl,hS.sel [0,1] rfl⟩
      ·intro o ho a w yg292 M Hb hv hO hS
       obtain rfl:=someE ho
       exact Stp.mono (o_evs [] (vA b287 1) none [] Hb rfl (by kernel_rfl) (fun q e => by cases e)) fun _ _ hq => ⟨gL [],fun _ _ => hq.1,(hS.below hq.2.below).sel [0,1] rfl⟩
      ·intro o ho a w yg292 M Hb hv hO hS
       obtain rfl:=someE ho
       exact Stp.mono (o_evs [(vL g283 y282.Value)] (vL g283 y282.Value) (some (rA b287 1 (vL g283 y282.Value))) [] ((Hb).add (hv 3 (by decide) (by decide) 118 rfl)) rfl (by kernel_rfl) (fun q e => by cases e; exact ((hS.bk 1 rfl).at1 rfl))) fun _ _ hq => ⟨gL [],fun _ _ => hq.1,(hS.below hq.2.below).sel [0,1] rfl⟩
      ·intro o ho a w yg292 M Hb hv hO hS0
       obtain rfl:=someE ho
       have H : Fr 302 ([(119,[],vL g283 y282.Value)] ++ (fS [1,2,3,4,5,6,7,10,11,12] [vB y12,vB y24,vB y36,vB y48,vB z51,vB z105,vB z159,vP b226,vP b251,vP b287])) _:=(Hb).add (hv 4 (by decide) (by decide) 119 rfl)
       obtain ⟨X,hX⟩ : ∃ X,X = fpl [eI tyValue y282.Value g283]:=⟨_,rfl⟩
       have hS : SH M X w [eI tyValue y282.Value g283] w:=by rw [hX]; exact hS0
       have hd:=hS.hand [0] [0] rfl rfl
       refine Stp.mono (o_sub (T:=tyValue) (E:=51) (g:=g283) (q:=y282.Value) (2 : Int) (ln y282.Value) (.some (vI 2)) .none H hd (hd.im 0 rfl) rfl rfl rfl rfl rfl rfl (.inr ⟨_,rfl⟩) (.inl ⟨rfl,rfl⟩) (by kernel_rfl) (by kernel_rfl) ho297) ?_
       rintro v w2 hq
       obtain ⟨g299,hv,hq⟩:=hq
       rw [← hq298] at hv hq
       subst hv
       replace hS : SH M X w [eI tyValue q298 g299,eI tyValue y282.Value g283,eI tyValue y282.Value g283] _:=hS.join [0] [0] rfl rfl hq
       clear hq
       rw [hX] at hS
       exact ⟨gL [g299],fun _ _ => rfl,hS.sel [0,1] rfl⟩
      ·intro o ho a w yg292 M Hb hv hO hS0
       obtain rfl:=someE ho
       have H : Fr 302 ((fS [120,117] [.slice (yg292 5 0).a q298.length (yg292 5 0).c,.slice (Gh.mk (yg292 2 0).a q294.length (yg292 2 0).s).a q294.length (Gh.mk (yg292 2 0).a q294.length (yg292 2 0).s).c]) ++ (fS [1,2,3,4,5,6,7,10,11,12] [vB y12,vB y24,vB y36,vB y48,vB z51,vB z105,vB z159,vP b226,vP b251,vP b287])) _:=((Hb).add (hv 2 (by decide) (by decide) 117 rfl)).add (hv 5 (by decide) (by decide) 120 rfl)
       obtain ⟨X,hX⟩ : ∃ X,X = fpl [eI tyValue q294 (Gh.mk (yg292 2 0).a q294.length (yg292 2 0).s),eI tyValue q298 (yg292 5 0)]:=⟨_,rfl⟩
       have hS : SH M X w [eI tyValue q294 (Gh.mk (yg292 2 0).a q294.length (yg292 2 0).s),eI tyValue q298 (yg292 5 0)] w:=by rw [hX]; exact hS0
       have hd:=hS.hand [0,1] [0,1] rfl rfl
       refine Stp.mono (o_appF (T:=tyValue) (e:=51) (zv:=vG [vU 0,vN,vI 0,vN,vF,vO]) (g1:=(Gh.mk (yg292 2 0).a q294.length (yg292 2 0).s)) (g2:=(yg292 5 0)) (l1:=q294) (l2:=q298) q303 hq303.symm H hd (hd.im 0 rfl) (hd.im 1 rfl) rfl rfl rfl rfl rfl rfl rfl rfl (by kernel_rfl) (by kernel_rfl) rfl rfl ho302 ho301) ?_
       rintro v w2 hq
       obtain ⟨g304,rfl,hq⟩:=hq
       replace hS : SH M X w [eO 51 tyValue q303 g304,eI tyValue q294 (Gh.mk (yg292 2 0).a q294.length (yg292 2 0).s),eI tyValue q298 (yg292 5 0)] _:=hS.join [0,1] [0,1] rfl rfl hq
       clear hq
       rw [hX] at hS
       exact ⟨gL [g304],fun _ _ => rfl,hS.sel [0,1,2] rfl⟩
      ·intro o ho a w yg292 M Hb hv hO hS
       obtain rfl:=someE ho
       exact Stp.mono (o_evs [] (vA b287 1) none [] Hb rfl (by kernel_rfl) (fun q e => by cases e)) fun _ _ hq => ⟨gL [],fun _ _ => hq.1,(hS.below hq.2.below).sel [0,1] rfl⟩
      ·intro o ho a w yg292 M Hb hv hO hS0
       obtain rfl:=someE ho
       have H : Fr 302 ((fS [122,121] [vA b287 1,.slice (yg292 6 0).a q303.length (yg292 6 0).c]) ++ (fS [1,2,3,4,5,6,7,10,11,12] [vB y12,vB y24,vB y36,vB y48,vB z51,vB z105,vB z159,vP b226,vP b251,vP b287])) _:=((Hb).add (hv 6 (by decide) (by decide) 121 rfl)).add (hv 7 (by decide) (by decide) 122 rfl)
       obtain ⟨X,hX⟩ : ∃ X,X = fpl [eO 51 tyValue q303 (yg292 6 0),eI tyValue y282.Value g283,eB b287 [vS y282.Name,vL g283 y282.Value,vB y282.Important]]:=⟨_,rfl⟩
       have hS : SH M X w [eO 51 tyValue q303 (yg292 6 0),eI tyValue y282.Value g283,eB b287 [vS y282.Name,vL g283 y282.Value,vB y282.Important]] w:=by rw [hX]; exact hS0
       have hd:=hS.hand [2] [0,1] rfl rfl
       refine Stp.mono (o_store [vS y282.Name,.slice (yg292 6 0).a q303.length (yg292 6 0).c,vB y282.Important] H hd rfl rfl (by kernel_rfl) rfl rfl rfl) ?_
       rintro v w2 hq
       replace hS : SH M X w [eB b287 [vS y282.Name,.slice (yg292 6 0).a q303.length (yg292 6 0).c,vB y282.Important],eO 51 tyValue q303 (yg292 6 0),eI tyValue y282.Value g283] _:=hS.join [2] [0,1] rfl rfl hq
       clear hq
       rw [hX] at hS
       exact ⟨gL [],(fun _ h => by cases h),hS.sel [0,1,2] rfl⟩
     have H308 : Fr 302 (fS [1,2,3,4,5,6,7,10,11,12] [vB y12,vB y24,vB y36,vB y48,vB z51,vB z105,vB z159,vP b226,vP b251,vP b287]) _:=(FrG.keep (ks:=[1,2,3,4,5,6,7,10,11,12]) H307 (by kernel_rfl))
     replace hS : SH M X w [eI tyValue q294 (Gh.mk (yg292 2 0).a q294.length (yg292 2 0).s),eI tyValue q298 (yg292 5 0),eO 51 tyValue q303 (yg292 6 0),eB b287 [vS y282.Name,.slice (yg292 6 0).a q303.length (yg292 6 0).c,vB y282.Important],eI tyValue y282.Value g283,eI tyValue q272 g280,eB b251 [vS y246.Name,vL g280 q272,vB y246.Important],eB b226 [vS y221.Name,vL g241 q238,vB y221.Important],eO 51 tyValue q238 g241,gE0] _:=hS
     clear hv H307
     generalize yg292 2 0 = g309 at H308 hS
     generalize yg292 5 0 = g310 at H308 hS
     generalize yg292 6 0 = g311 at H308 hS
     replace hS : SH M X w [eO 51 tyValue q303 g311,eB b287 [vS y282.Name,vL g311 q303,vB y282.Important],eI tyValue q272 g280,eB b251 [vS y246.Name,vL g280 q272,vB y246.Important],eB b226 [vS y221.Name,vL g241 q238,vB y221.Important],eO 51 tyValue q238 g241,gE0] _:=hS.sel [2,3,5,6,7,8,9] rfl
     apply w_seq
     apply wl_start
     obtain ⟨y312,hy312,hm⟩:=bindE hm
     have hd:=hS.hand [] [0,1,2,3,4,5,6] rfl rfl
     refine m_stp [123,1,2,3,4,5,6,7,10,11,12] (fS [1,2,3,4,5,6,7,10,11,12] [vB y12,vB y24,vB y36,vB y48,vB z51,vB z105,vB z159,vP b226,vP b251,vP b287]) H308 rfl rfl rfl rfl (o_callx H308 rfl rfl (law27_decl_ok m _ _ _ hy312 _ _ hd)) (fun _ => rfl) fun _ _ v H316 hq => ?_
     clear H308 hd
     obtain ⟨g313,rfl,hq⟩:=hq
     replace hS : SH M X w [eO 51 tyValue y312.Value g313,eO 51 tyValue q303 g311,eB b287 [vS y282.Name,vL g311 q303,vB y282.Important],eI tyValue q272 g280,eB b251 [vS y246.Name,vL g280 q272,vB y246.Important],eB b226 [vS y221.Name,vL g241 q238,vB y221.Important],eO 51 tyValue q238 g241,gE0] _:=hS.join [] [0,1,2,3,4,5,6] rfl rfl hq
     clear hq
     have hd:=hS.hand [] [0,1,2,3,4,5,6,7] rfl rfl
     refine m_stp [13,1,2,3,4,5,6,7,10,11,12,123] (fS [1,2,3,4,5,6,7,10,11,12,123] [vB y12,vB y24,vB y36,vB y48,vB z51,vB z105,vB z159,vP b226,vP b251,vP b287,vG [vS y312.Name,vL g313 y312.Value,vB y312.Important]]) H316 rfl rfl rfl rfl (o_alloc [vN,vO,vF] (z:=vG [vN,vO,vF]) hd (by kernel_rfl) rfl) (fun _ => rfl) fun _ _ v H319 hq => ?_
     clear H316 hd
     obtain ⟨b317,rfl,hq⟩:=hq
     replace hS : SH M X w [eB b317 [vN,vO,vF],eO 51 tyValue y312.Value g313,eO 51 tyValue q303 g311,eB b287 [vS y282.Name,vL g311 q303,vB y282.Important],eI tyValue q272 g280,eB b251 [vS y246.Name,vL g280 q272,vB y246.Important],eB b226 [vS y221.Name,vL g241 q238,vB y221.Important],eO 51 tyValue q238 g241,gE0] _:=hS.join [] [0,1,2,3,4,5,6,7] rfl rfl hq
     clear hq
     have hd:=hS.hand [0] [1,2,3,4,5,6,7,8] rfl rfl
     refine m_stp0 [1,2,3,4,5,6,7,10,11,12,13] (fS [1,2,3,4,5,6,7,10,11,12,13] [vB y12,vB y24,vB y36,vB y48,vB z51,vB z105,vB z159,vP b226,vP b251,vP b287,vP b317]) H319 rfl rfl rfl (o_store [vS y312.Name,vL g313 y312.Value,vB y312.Important] H319 hd rfl rfl (by kernel_rfl) rfl rfl rfl) rfl fun _ _ H321 hq => ?_
     clear H319 hd
     obtain ⟨_,hq⟩:=hq
     replace hS : SH M X w [eB b317 [vS y312.Name,vL g313 y312.Value,vB y312.Important],eO 51 tyValue y312.Value g313,eO 51 tyValue q303 g311,eB b287 [vS y282.Name,vL g311 q303,vB y282.Important],eI tyValue q272 g280,eB b251 [vS y246.Name,vL g280 q272,vB y246.Important],eB b226 [vS y221.Name,vL g241 q238,vB y221.Important],eO 51 tyValue q238 g241,gE0] _:=hS.join [0] [1,2,3,4,5,6,7,8] rfl rfl hq
     clear hq
     apply wl_end rfl
     replace hS : SH M X w [eI tyValue y312.Value g313,eB b317 [vS y312.Name,vL g313 y312.Value,vB y312.Important],eO 51 tyValue q303 g311,eB b287 [vS y282.Name,vL g311 q303,vB y282.Important],eI tyValue q272 g280,eB b251 [vS y246.Name,vL g280 q272,vB y246.Important],eB b226 [vS y221.Name,vL g241 q238,vB y221.Important],eO 51 tyValue q238 g241,gE0] _:=SH.frz1 (hS.sel [1,0,2,3,4,5,6,7,8] rfl)
     obtain ⟨z322,hz,hm⟩:=bindE hm
     refine w_cut (fun a' w' => ∃ (g345 : Gh),Fr 302 (fS [1,2,3,4,5,6,7,10,11,12,13] [vB y12,vB y24,vB y36,vB y48,vB z51,vB z105,vB z159,vP b226,vP b251,vP b287,vP b317]) a' ∧ SH M X w [eI tyValue z322 g345,eI tyValue y312.Value g313,eB b317 [vS y312.Name,vL g345 z322,vB y312.Important],eO 51 tyValue q303 g311,eB b287 [vS y282.Name,vL g311 q303,vB y282.Important],eI tyValue q272 g280,eB b251 [vS y246.Name,vL g280 q272,vB y246.Important],eB b226 [vS y221.Name,vL g241 q238,vB y221.Important],eO 51 tyValue q238 g241,gE0] w') ?_ ?_
     ·replace hm:=hz
      refine s_reg [] [1,2,3,4,5,6,7,10,11,12,13,14] (fS [1,2,3,4,5,6,7,10,11,12,13,14] [vB y12,vB y24,vB y36,vB y48,vB z51,vB z105,vB z159,vP b226,vP b251,vP b287,vP b317,vI 0]) [] H321 (by kernel_rfl) trivial fun _ _ H324 hb => ?_
      replace hS:=hS.below hb
      clear H321 hb
      apply w_block
      replace hS : SH M X w [eI tyValue y312.Value g313,eI tyValue y312.Value g313,eB b317 [vS y312.Name,vL g313 y312.Value,vB y312.Important],eO 51 tyValue q303 g311,eB b287 [vS y282.Name,vL g311 q303,vB y282.Important],eI tyValue q272 g280,eB b251 [vS y246.Name,vL g280 q272,vB y246.Important],eB b226 [vS y221.Name,vL g241 q238,vB y221.Important],eO 51 tyValue q238 g241,gE0] _:=hS.addIm (hS.im 0 rfl)
      refine w_loop (fun kk a' w' => ∃ (v326 : Int) (v327 : List TValue) (g328 : Gh),law27_ShortNames_L2 m  kk v326 v327 = some _ ∧ Fr 302 (fS [1,2,3,4,5,6,7,10,11,12,13,14] [vB y12,vB y24,vB y36,vB y48,vB z51,vB z105,vB z159,vP b226,vP b251,vP b287,vP b317,vI v326]) a' ∧ SH M X w [eI tyValue v327 g328,eI tyValue y312.Value g313,eB b317 [vS y312.Name,vL g328 v327,vB y312.Important],eO 51 tyValue q303 g311,eB b287 [vS y282.Name,vL g311 q303,vB y282.Important],eI tyValue q272 g280,eB b251 [vS y246.Name,vL g280 q272,vB y246.Important],eB b226 [vS y221.Name,vL g241 q238,vB y221.Important],eO 51 tyValue q238 g241,gE0] w') ⟨_,0,y312.Value,g313,hm,FrG.keep (ks:=[1,2,3,4,5,6,7,10,11,12,13,14]) H324 (by kernel_rfl),hS⟩ ?_
      clear hm H324 hS
      rintro kk _ _ ⟨v326,v327,g328,hm,H,hS⟩
      cases kk with
      | zero => exact noneE hm
      | succ kk =>
       rw [law27_ShortNames_L2] at hm
       apply w_seq
       refine s_reg [] [1,2,3,4,5,6,7,10,11,12,13,14,125] (fS [1,2,3,4,5,6,7,10,11,12,13,14,125] [vB y12,vB y24,vB y36,vB y48,vB z51,vB z105,vB z159,vP b226,vP b251,vP b287,vP b317,vI v326,vB (decide (v326 < 17))]) [] H (by kernel_rfl) trivial fun _ _ H330 hb => ?_
       replace hS:=hS.below hb
       clear H hb
       refine w_if H330 rfl (fun hc => ?_) (fun hc => ?c343)
       case c343 =>
        replace hm:=bF hc hm
        apply w_exit rfl
        obtain rfl:=someE hm
        exact ⟨g328,FrG.keep (ks:=[1,2,3,4,5,6,7,10,11,12,13]) H330 (by kernel_rfl),hS⟩
       replace hm:=bT hc hm
       apply w_skip
       apply w_seq
       apply w_block
       apply wl_start
       refine wl_batch 0 4 [(vL g328 v327)] [1,2,3,4,5,6,7,10,11,12,13,14,131] (fS [1,2,3,4,5,6,7,10,11,12,13,14,131] [vB y12,vB y24,vB y36,vB y48,vB z51,vB z105,vB z159,vP b226,vP b251,vP b287,vP b317,vI v326,vG [vU 21,vN,vI 0,vN,vF,vL g328 v327]]) [rA b317 1 (vL g328 v327)] H330 (by decide) (by kernel_rfl) ⟨((hS.bk 2 rfl).at1 rfl),trivial⟩ fun _ _ H332 hb => ?_
       replace hS:=hS.below hb
       clear H330 hb
       have hd:=hS.hand [0] [0,1,2,3,4,5,6,7,8,9] rfl rfl
       refine m_stp [132,1,2,3,4,5,6,7,10,11,12,13,14] (fS [1,2,3,4,5,6,7,10,11,12,13,14] [vB y12,vB y24,vB y36,vB y48,vB z51,vB z105,vB z159,vP b226,vP b251,vP b287,vP b317,vI v326]) H332 rfl rfl rfl rfl (o_lit (T:=tyValue) (E:=51) (zv:=vG [vU 0,vN,vI 0,vN,vF,vO]) [vU 21,vN,vI 0,vN,vF,vL g328 v327] ([(TValue.mk (TToken.mk 21 [] 0 [] false) v327)] : List TValue) [gL [g328]] _ H332 hd rfl (by kernel_rfl) (by kernel_rfl) (by kernel_rfl) (by kernel_rfl) (by kernel_rfl) (by kernel_rfl) (by kernel_rfl) rfl (InnL.cons (tyValue_mk (hd.im 0 rfl)) InnL.nil)) (fun _ => rfl) fun _ _ v H336 hq => ?_
       clear H332 hd
       obtain ⟨g333,rfl,hq⟩:=hq
       replace hS : SH M X w [eO 51 tyValue ([(TValue.mk (TToken.mk 21 [] 0 [] false) v327)] : List TValue) g333,eI tyValue v327 g328,eI tyValue y312.Value g313,eB b317 [vS y312.Name,vL g328 v327,vB y312.Important],eO 51 tyValue q303 g311,eB b287 [vS y282.Name,vL g311 q303,vB y282.Important],eI tyValue q272 g280,eB b251 [vS y246.Name,vL g280 q272,vB y246.Important],eB b226 [vS y221.Name,vL g241 q238,vB y221.Important],eO 51 tyValue q238 g241,gE0] _:=hS.join [0] [0,1,2,3,4,5,6,7,8,9] rfl rfl hq
       clear hq
       refine wl_batch 5 6 [] [1,2,3,4,5,6,7,10,11,12,13,14,132,133] (fS [1,2,3,4,5,6,7,10,11,12,13,14,132,133] [vB y12,vB y24,vB y36,vB y48,vB z51,vB z105,vB z159,vP b226,vP b251,vP b287,vP b317,vI v326,vK g333 1,vA b317 1]) [] H336 (by decide) (by kernel_rfl) trivial fun _ _ H338 hb => ?_
       replace hS:=hS.below hb
       clear H336 hb
       have hd:=hS.hand [3] [0,1,2,4,5,6,7,8,9,10] rfl rfl
       refine m_stp0 [1,2,3,4,5,6,7,10,11,12,13,14] (fS [1,2,3,4,5,6,7,10,11,12,13,14] [vB y12,vB y24,vB y36,vB y48,vB z51,vB z105,vB z159,vP b226,vP b251,vP b287,vP b317,vI v326]) H338 rfl rfl rfl (o_store [vS y312.Name,vK g333 1,vB y312.Important] H338 hd rfl rfl (by kernel_rfl) rfl rfl rfl) rfl fun _ _ H340 hq => ?_
       clear H338 hd
       obtain ⟨_,hq⟩:=hq
       replace hS : SH M X w [eB b317 [vS y312.Name,vK g333 1,vB y312.Important],eO 51 tyValue ([(TValue.mk (TToken.mk 21 [] 0 [] false) v327)] : List TValue) g333,eI tyValue v327 g328,eI tyValue y312.Value g313,eO 51 tyValue q303 g311,eB b287 [vS y282.Name,vL g311 q303,vB y282.Important],eI tyValue q272 g280,eB b251 [vS y246.Name,vL g280 q272,vB y246.Important],eB b226 [vS y221.Name,vL g241 q238,vB y221.Important],eO 51 tyValue q238 g241,gE0] _:=hS.join [3] [0,1,2,4,5,6,7,8,9,10] rfl rfl hq
       clear hq
       apply wl_end rfl
       refine w_reg [] [1,2,3,4,5,6,7,10,11,12,13,14] (fS [1,2,3,4,5,6,7,10,11,12,13,14] [vB y12,vB y24,vB y36,vB y48,vB z51,vB z105,vB z159,vP b226,vP b251,vP b287,vP b317,vI (w64 (v326 + 1))]) [] H340 (by kernel_rfl) trivial fun _ _ H342 hb => ?_
       replace hS:=hS.below hb
       clear H340 hb
       replace hS : SH M X w [eI tyValue ([(TValue.mk (TToken.mk 21 [] 0 [] false) v327)] : List TValue) g333,eB b317 [vS y312.Name,vK g333 1,vB y312.Important],eI tyValue v327 g328,eI tyValue y312.Value g313,eO 51 tyValue q303 g311,eB b287 [vS y282.Name,vL g311 q303,vB y282.Important],eI tyValue q272 g280,eB b251 [vS y246.Name,vL g280 q272,vB y246.Important],eB b226 [vS y221.Name,vL g241 q238,vB y221.Important],eO 51 tyValue q238 g241,gE0] _:=SH.frz1 (hS.sel [1,0,2,3,4,5,6,7,8,9,10] rfl)
       replace hS : SH M X w [eI tyValue ([(TValue.mk (TToken.mk 21 [] 0 [] false) v327)] : List TValue) g333,eI tyValue y312.Value g313,eB b317 [vS y312.Name,vK g333 1,vB y312.Important],eO 51 tyValue q303 g311,eB b287 [vS y282.Name,vL g311 q303,vB y282.Important],eI tyValue q272 g280,eB b251 [vS y246.Name,vL g280 q272,vB y246.Important],eB b226 [vS y221.Name,vL g241 q238,vB y221.Important],eO 51 tyValue q238 g241,gE0] _:=hS.sel [0,3,1,4,5,6,7,8,9,10] rfl
       exact ⟨_,Nat.lt_succ_self _,w64 (v326 + 1),([(TValue.mk (TToken.mk 21 [] 0 [] false) v327)] : List TValue),g333,hm,FrG.keep (ks:=[1,2,3,4,5,6,7,10,11,12,13,14]) H342 (by kernel_rfl),hS⟩
     ·rintro _ _ ⟨g345,H,hS⟩
      replace hS : SH M X w [eI tyValue z322 g345,eB b317 [vS y312.Name,vL g345 z322,vB y312.Important],eO 51 tyValue q303 g311,eB b287 [vS y282.Name,vL g311 q303,vB y282.Important],eI tyValue q272 g280,eB b251 [vS y246.Name,vL g280 q272,vB y246.Important],eB b226 [vS y221.Name,vL g241 q238,vB y221.Important],eO 51 tyValue q238 g241,gE0] _:=hS.sel [0,2,3,4,5,6,7,8,9] rfl
      apply w_seq
      apply wl_start
      replace hS : SH M X w [eO 51 tyValue ([] : List TValue) (.nil),eI tyValue z322 g345,eB b317 [vS y312.Name,vL g345 z322,vB y312.Important],eO 51 tyValue q303 g311,eB b287 [vS y282.Name,vL g311 q303,vB y282.Important],eI tyValue q272 g280,eB b251 [vS y246.Name,vL g280 q272,vB y246.Important],eB b226 [vS y221.Name,vL g241 q238,vB y221.Important],eO 51 tyValue q238 g241,gE0] _:=hS.addNil 51 tyValue
      replace hS : SH M X w [eI tyValue ([] : List TValue) (.nil),eI tyValue z322 g345,eB b317 [vS y312.Name,vL g345 z322,vB y312.Important],eO 51 tyValue q303 g311,eB b287 [vS y282.Name,vL g311 q303,vB y282.Important],eI tyValue q272 g280,eB b251 [vS y246.Name,vL g280 q272,vB y246.Important],eB b226 [vS y221.Name,vL g241 q238,vB y221.Important],eO 51 tyValue q238 g241,gE0] _:=SH.frz1 (hS.sel [0,1,2,3,4,5,6,7,8,9] rfl)
      obtain ⟨y348,hy348,hm⟩:=bindE hm
      have hd:=hS.hand [0,9] [0,1,2,3,4,5,6,7,8,9] rfl rfl
      refine m_stp [135,1,2,3,4,5,6,7,10,11,12,13] (fS [1,2,3,4,5,6,7,10,11,12,13] [vB y12,vB y24,vB y36,vB y48,vB z51,vB z105,vB z159,vP b226,vP b251,vP b287,vP b317]) H rfl rfl rfl rfl (o_callx H rfl rfl (short_Part_ok (g_l_:=Gh.nil) m _ _ _ _ hy348 _ _ hd)) (fun _ => rfl) fun _ _ v H352 hq => ?_
      clear H hd
      obtain ⟨g349,rfl,hq⟩:=hq
      replace hS : SH M X w [eO 51 tyValue y348.1 g349,eI tyValue ([] : List TValue) (.nil),eI tyValue z322 g345,eB b317 [vS y312.Name,vL g345 z322,vB y312.Important],eO 51 tyValue q303 g311,eB b287 [vS y282.Name,vL g311 q303,vB y282.Important],eI tyValue q272 g280,eB b251 [vS y246.Name,vL g280 q272,vB y246.Important],eB b226 [vS y221.Name,vL g241 q238,vB y221.Important],eO 51 tyValue q238 g241,gE0] _:=hS.join [0,9] [0,1,2,3,4,5,6,7,8,9] rfl rfl hq
      clear hq
      refine wl_batch 1 6 [] [1,2,3,4,5,6,7,10,11,12,13,16] (fS [1,2,3,4,5,6,7,10,11,12,13,16] [vB y12,vB y24,vB y36,vB y48,vB z51,vB z105,vB z159,vP b226,vP b251,vP b287,vP b317,vI y348.2]) [] H352 (by decide) (by kernel_rfl) trivial fun _ _ H354 hb => ?_
      replace hS:=hS.below hb
      clear H352 hb
      apply wl_end rfl
      replace hS : SH M X w [eI tyValue z322 g345,eB b317 [vS y312.Name,vL g345 z322,vB y312.Important],eO 51 tyValue q303 g311,eB b287 [vS y282.Name,vL g311 q303,vB y282.Important],eI tyValue q272 g280,eB b251 [vS y246.Name,vL g280 q272,vB y246.Important],eB b226 [vS y221.Name,vL g241 q238,vB y221.Important],eO 51 tyValue q238 g241,gE0] _:=hS.sel [2,3,4,5,6,7,8,9,10] rfl
      apply w_seq
      apply wl_start
      obtain ⟨y355,hy355,hm⟩:=bindE hm
      have hd:=hS.hand [] [0,1,2,3,4,5,6,7,8] rfl rfl
      refine m_stp [139,1,2,3,4,5,6,7,10,11,12,13,16] (fS [1,2,3,4,5,6,7,10,11,12,13,16] [vB y12,vB y24,vB y36,vB y48,vB z51,vB z105,vB z159,vP b226,vP b251,vP b287,vP b317,vI y348.2]) H354 rfl rfl rfl rfl (o_callx H354 rfl rfl (r04_Of_ok m _ _ hy355 _ _ hd)) (fun _ => rfl) fun _ _ v H359 hq => ?_
      clear H354 hd
      obtain ⟨g356,rfl,hq⟩:=hq
      replace hS : SH M X w [eO 51 tyValue y355 g356,eI tyValue z322 g345,eB b317 [vS y312.Name,vL g345 z322,vB y312.Important],eO 51 tyValue q303 g311,eB b287 [vS y282.Name,vL g311 q303,vB y282.Important],eI tyValue q272 g280,eB b251 [vS y246.Name,vL g280 q272,vB y246.Important],eB b226 [vS y221.Name,vL g241 q238,vB y221.Important],eO 51 tyValue q238 g241,gE0] _:=hS.join [] [0,1,2,3,4,5,6,7,8] rfl rfl hq
      clear hq
      replace hS : SH M X w [eI tyValue y355 g356,eI tyValue z322 g345,eB b317 [vS y312.Name,vL g345 z322,vB y312.Important],eO 51 tyValue q303 g311,eB b287 [vS y282.Name,vL g311 q303,vB y282.Important],eI tyValue q272 g280,eB b251 [vS y246.Name,vL g280 q272,vB y246.Important],eB b226 [vS y221.Name,vL g241 q238,vB y221.Important],eO 51 tyValue q238 g241,gE0] _:=SH.frz1 (hS.sel [0,1,2,3,4,5,6,7,8,9] rfl)
      obtain ⟨y360,hy360,hm⟩:=bindE hm
      have hd:=hS.hand [0,9] [0,1,2,3,4,5,6,7,8,9] rfl rfl
      refine m_stp [140,1,2,3,4,5,6,7,10,11,12,13,16] (fS [1,2,3,4,5,6,7,10,11,12,13,16] [vB y12,vB y24,vB y36,vB y48,vB z51,vB z105,vB z159,vP b226,vP b251,vP b287,vP b317,vI y348.2]) H359 rfl rfl rfl rfl (o_callx H359 rfl rfl (short_Part_ok (g_l_:=g356) m _ _ _ _ hy360 _ _ hd)) (fun _ => rfl) fun _ _ v H364 hq => ?_
      clear H359 hd
      obtain ⟨g361,rfl,hq⟩:=hq
      replace hS : SH M X w [eO 51 tyValue y360.1 g361,eI tyValue y355 g356,eI tyValue z322 g345,eB b317 [vS y312.Name,vL g345 z322,vB y312.Important],eO 51 tyValue q303 g311,eB b287 [vS y282.Name,vL g311 q303,vB y282.Important],eI tyValue q272 g280,eB b251 [vS y246.Name,vL g280 q272,vB y246.Important],eB b226 [vS y221.Name,vL g241 q238,vB y221.Important],eO 51 tyValue q238 g241,gE0] _:=hS.join [0,9] [0,1,2,3,4,5,6,7,8,9] rfl rfl hq
      clear hq
      refine wl_batch 2 7 [] [1,2,3,4,5,6,7,10,11,12,13,16,18] (fS [1,2,3,4,5,6,7,10,11,12,13,16,18] [vB y12,vB y24,vB y36,vB y48,vB z51,vB z105,vB z159,vP b226,vP b251,vP b287,vP b317,vI y348.2,vI y360.2]) [] H364 (by decide) (by kernel_rfl) trivial fun _ _ H366 hb => ?_
      replace hS:=hS.below hb
      clear H364 hb
      apply wl_end rfl
      replace hS : SH M X w [eI tyValue z322 g345,eB b317 [vS y312.Name,vL g345 z322,vB y312.Important],eO 51 tyValue q303 g311,eB b287 [vS y282.Name,vL g311 q303,vB y282.Important],eI tyValue q272 g280,eB b251 [vS y246.Name,vL g280 q272,vB y246.Important],eB b226 [vS y221.Name,vL g241 q238,vB y221.Important],eO 51 tyValue q238 g241,gE0] _:=hS.sel [2,3,4,5,6,7,8,9,10] rfl
      apply w_seq
      apply wl_start
      obtain ⟨y367,hy367,hm⟩:=bindE hm
      have hd:=hS.hand [] [0,1,2,3,4,5,6,7,8] rfl rfl
      refine m_stp [144,1,2,3,4,5,6,7,10,11,12,13,16,18] (fS [1,2,3,4,5,6,7,10,11,12,13,16,18] [vB y12,vB y24,vB y36,vB y48,vB z51,vB z105,vB z159,vP b226,vP b251,vP b287,vP b317,vI y348.2,vI y360.2]) H366 rfl rfl rfl rfl (o_callx H366 rfl rfl (r04_Of_ok m _ _ hy367 _ _ hd)) (fun _ => rfl) fun _ _ v H371 hq => ?_
      clear H366 hd
      obtain ⟨g368,rfl,hq⟩:=hq
      replace hS : SH M X w [eO 51 tyValue y367 g368,eI tyValue z322 g345,eB b317 [vS y312.Name,vL g345 z322,vB y312.Important],eO 51 tyValue q303 g311,eB b287 [vS y282.Name,vL g311 q303,vB y282.Important],eI tyValue q272 g280,eB b251 [vS y246.Name,vL g280 q272,vB y246.Important],eB b226 [vS y221.Name,vL g241 q238,vB y221.Important],eO 51 tyValue q238 g241,gE0] _:=hS.join [] [0,1,2,3,4,5,6,7,8] rfl rfl hq
      clear hq
      replace hS : SH M X w [eI tyValue y367 g368,eI tyValue z322 g345,eB b317 [vS y312.Name,vL g345 z322,vB y312.Important],eO 51 tyValue q303 g311,eB b287 [vS y282.Name,vL g311 q303,vB y282.Important],eI tyValue q272 g280,eB b251 [vS y246.Name,vL g280 q272,vB y246.Important],eB b226 [vS y221.Name,vL g241 q238,vB y221.Important],eO 51 tyValue q238 g241,gE0] _:=SH.frz1 (hS.sel [0,1,2,3,4,5,6,7,8,9] rfl)
      obtain ⟨y372,hy372,hm⟩:=bindE hm
      have hd:=hS.hand [0,9] [0,1,2,3,4,5,6,7,8,9] rfl rfl
      refine m_stp [145,1,2,3,4,5,6,7,10,11,12,13,16,18] (fS [1,2,3,4,5,6,7,10,11,12,13,16,18] [vB y12,vB y24,vB y36,vB y48,vB z51,vB z105,vB z159,vP b226,vP b251,vP b287,vP b317,vI y348.2,vI y360.2]) H371 rfl rfl rfl rfl (o_callx H371 rfl rfl (short_Part_ok (g_l_:=g368) m _ _ _ _ hy372 _ _ hd)) (fun _ => rfl) fun _ _ v H376 hq => ?_
      clear H371 hd
      obtain ⟨g373,rfl,hq⟩:=hq
      replace hS : SH M X w [eO 51 tyValue y372.1 g373,eI tyValue y367 g368,eI tyValue z322 g345,eB b317 [vS y312.Name,vL g345 z322,vB y312.Important],eO 51 tyValue q303 g311,eB b287 [vS y282.Name,vL g311 q303,vB y282.Important],eI tyValue q272 g280,eB b251 [vS y246.Name,vL g280 q272,vB y246.Important],eB b226 [vS y221.Name,vL g241 q238,vB y221.Important],eO 51 tyValue q238 g241,gE0] _:=hS.join [0,9] [0,1,2,3,4,5,6,7,8,9] rfl rfl hq
      clear hq
      refine wl_batch 2 7 [] [1,2,3,4,5,6,7,10,11,12,13,16,18,20] (fS [1,2,3,4,5,6,7,10,11,12,13,16,18,20] [vB y12,vB y24,vB y36,vB y48,vB z51,vB z105,vB z159,vP b226,vP b251,vP b287,vP b317,vI y348.2,vI y360.2,vI y372.2]) [] H376 (by decide) (by kernel_rfl) trivial fun _ _ H378 hb => ?_
      replace hS:=hS.below hb
      clear H376 hb
      apply wl_end rfl
      replace hS : SH M X w [eI tyValue z322 g345,eB b317 [vS y312.Name,vL g345 z322,vB y312.Important],eO 51 tyValue q303 g311,eB b287 [vS y282.Name,vL g311 q303,vB y282.Important],eI tyValue q272 g280,eB b251 [vS y246.Name,vL g280 q272,vB y246.Important],eB b226 [vS y221.Name,vL g241 q238,vB y221.Important],eO 51 tyValue q238 g241,gE0] _:=hS.sel [2,3,4,5,6,7,8,9,10] rfl
      apply w_seq
      apply wl_start
      obtain ⟨y379,hy379,hm⟩:=bindE hm
      have hd:=hS.hand [] [0,1,2,3,4,5,6,7,8] rfl rfl
      refine m_stp [149,1,2,3,4,5,6,7,10,11,12,13,16,18,20] (fS [1,2,3,4,5,6,7,10,11,12,13,16,18,20] [vB y12,vB y24,vB y36,vB y48,vB z51,vB z105,vB z159,vP b226,vP b251,vP b287,vP b317,vI y348.2,vI y360.2,vI y372.2]) H378 rfl rfl rfl rfl (o_callx H378 rfl rfl (r04_Of_ok m _ _ hy379 _ _ hd)) (fun _ => rfl) fun _ _ v H383 hq => ?_
      clear H378 hd
      obtain ⟨g380,rfl,hq⟩:=hq
      replace hS : SH M X w [eO 51 tyValue y379 g380,eI tyValue z322 g345,eB b317 [vS y312.Name,vL g345 z322,vB y312.Important],eO 51 tyValue q303 g311,eB b287 [vS y282.Name,vL g311 q303,vB y282.Important],eI tyValue q272 g280,eB b251 [vS y246.Name,vL g280 q272,vB y246.Important],eB b226 [vS y221.Name,vL g241 q238,vB y221.Important],eO 51 tyValue q238 g241,gE0] _:=hS.join [] [0,1,2,3,4,5,6,7,8] rfl rfl hq
      clear hq
      replace hS : SH M X w [eI tyValue y379 g380,eI tyValue z322 g345,eB b317 [vS y312.Name,vL g345 z322,vB y312.Important],eO 51 tyValue q303 g311,eB b287 [vS y282.Name,vL g311 q303,vB y282.Important],eI tyValue q272 g280,eB b251 [vS y246.Name,vL g280 q272,vB y246.Important],eB b226 [vS y221.Name,vL g241 q238,vB y221.Important],eO 51 tyValue q238 g241,gE0] _:=SH.frz1 (hS.sel [0,1,2,3,4,5,6,7,8,9] rfl)
      obtain ⟨y384,hy384,hm⟩:=bindE hm
      have hd:=hS.hand [0,9] [0,1,2,3,4,5,6,7,8,9] rfl rfl
      refine m_stp [150,1,2,3,4,5,6,7,10,11,12,13,16,18,20] (fS [1,2,3,4,5,6,7,10,11,12,13,16,18,20] [vB y12,vB y24,vB y36,vB y48,vB z51,vB z105,vB z159,vP b226,vP b251,vP b287,vP b317,vI y348.2,vI y360.2,vI y372.2]) H383 rfl rfl rfl rfl (o_callx H383 rfl rfl (short_Part_ok (g_l_:=g380) m _ _ _ _ hy384 _ _ hd)) (fun _ => rfl) fun _ _ v H388 hq => ?_
      clear H383 hd
      obtain ⟨g385,rfl,hq⟩:=hq
      replace hS : SH M X w [eO 51 tyValue y384.1 g385,eI tyValue y379 g380,eI tyValue z322 g345,eB b317 [vS y312.Name,vL g345 z322,vB y312.Important],eO 51 tyValue q303 g311,eB b287 [vS y282.Name,vL g311 q303,vB y282.Important],eI tyValue q272 g280,eB b251 [vS y246.Name,vL g280 q272,vB y246.Important],eB b226 [vS y221.Name,vL g241 q238,vB y221.Important],eO 51 tyValue q238 g241,gE0] _:=hS.join [0,9] [0,1,2,3,4,5,6,7,8,9] rfl rfl hq
      clear hq
      refine wl_batch 2 7 [] [1,2,3,4,5,6,7,10,11,12,13,16,18,20,22] (fS [1,2,3,4,5,6,7,10,11,12,13,16,18,20,22] [vB y12,vB y24,vB y36,vB y48,vB z51,vB z105,vB z159,vP b226,vP b251,vP b287,vP b317,vI y348.2,vI y360.2,vI y372.2,vI y384.2]) [] H388 (by decide) (by kernel_rfl) trivial fun _ _ H390 hb => ?_
      replace hS:=hS.below hb
      clear H388 hb
      apply wl_end rfl
      replace hS : SH M X w [eI tyValue z322 g345,eB b317 [vS y312.Name,vL g345 z322,vB y312.Important],eO 51 tyValue q303 g311,eB b287 [vS y282.Name,vL g311 q303,vB y282.Important],eI tyValue q272 g280,eB b251 [vS y246.Name,vL g280 q272,vB y246.Important],eB b226 [vS y221.Name,vL g241 q238,vB y221.Important],eO 51 tyValue q238 g241,gE0] _:=hS.sel [2,3,4,5,6,7,8,9,10] rfl
      apply w_seq
      apply wl_start
      obtain ⟨y391,hy391,hm⟩:=bindE hm
      have hd:=hS.hand [] [0,1,2,3,4,5,6,7,8] rfl rfl
      refine m_stp [154,1,2,3,4,5,6,7,10,11,12,13,16,18,20,22] (fS [1,2,3,4,5,6,7,10,11,12,13,16,18,20,22] [vB y12,vB y24,vB y36,vB y48,vB z51,vB z105,vB z159,vP b226,vP b251,vP b287,vP b317,vI y348.2,vI y360.2,vI y372.2,vI y384.2]) H390 rfl rfl rfl rfl (o_callx H390 rfl rfl (r04_Of_ok m _ _ hy391 _ _ hd)) (fun _ => rfl) fun _ _ v H395 hq => ?_
      clear H390 hd
      obtain ⟨g392,rfl,hq⟩:=hq
      replace hS : SH M X w [eO 51 tyValue y391 g392,eI tyValue z322 g345,eB b317 [vS y312.Name,vL g345 z322,vB y312.Important],eO 51 tyValue q303 g311,eB b287 [vS y282.Name,vL g311 q303,vB y282.Important],eI tyValue q272 g280,eB b251 [vS y246.Name,vL g280 q272,vB y246.Important],eB b226 [vS y221.Name,vL g241 q238,vB y221.Important],eO 51 tyValue q238 g241,gE0] _:=hS.join [] [0,1,2,3,4,5,6,7,8] rfl rfl hq
      clear hq
      replace hS : SH M X w [eI tyValue y391 g392,eI tyValue z322 g345,eB b317 [vS y312.Name,vL g345 z322,vB y312.Important],eO 51 tyValue q303 g311,eB b287 [vS y282.Name,vL g311 q303,vB y282.Important],eI tyValue q272 g280,eB b251 [vS y246.Name,vL g280 q272,vB y246.Important],eB b226 [vS y221.Name,vL g241 q238,vB y221.Important],eO 51 tyValue q238 g241,gE0] _:=SH.frz1 (hS.sel [0,1,2,3,4,5,6,7,8,9] rfl)
      obtain ⟨y396,hy396,hm⟩:=bindE hm
      have hd:=hS.hand [0,9] [0,1,2,3,4,5,6,7,8,9] rfl rfl
      refine m_stp [155,1,2,3,4,5,6,7,10,11,12,13,16,18,20,22] (fS [1,2,3,4,5,6,7,10,11,12,13,16,18,20,22] [vB y12,vB y24,vB y36,vB y48,vB z51,vB z105,vB z159,vP b226,vP b251,vP b287,vP b317,vI y348.2,vI y360.2,vI y372.2,vI y384.2]) H395 rfl rfl rfl rfl (o_callx H395 rfl rfl (short_Part_ok (g_l_:=g392) m _ _ _ _ hy396 _ _ hd)) (fun _ => rfl) fun _ _ v H400 hq => ?_
      clear H395 hd
      obtain ⟨g397,rfl,hq⟩:=hq
      replace hS : SH M X w [eO 51 tyValue y396.1 g397,eI tyValue y391 g392,eI tyValue z322 g345,eB b317 [vS y312.Name,vL g345 z322,vB y312.Important],eO 51 tyValue q303 g311,eB b287 [vS y282.Name,vL g311 q303,vB y282.Important],eI tyValue q272 g280,eB b251 [vS y246.Name,vL g280 q272,vB y246.Important],eB b226 [vS y221.Name,vL g241 q238,vB y221.Important],eO 51 tyValue q238 g241,gE0] _:=hS.join [0,9] [0,1,2,3,4,5,6,7,8,9] rfl rfl hq
      clear hq
      refine wl_batch 2 7 [] [1,2,3,4,5,6,7,10,11,12,13,16,18,20,22,23,24] (fS [1,2,3,4,5,6,7,10,11,12,13,16,18,20,22,23,24] [vB y12,vB y24,vB y36,vB y48,vB z51,vB z105,vB z159,vP b226,vP b251,vP b287,vP b317,vI y348.2,vI y360.2,vI y372.2,vI y384.2,vL g397 y396.1,vI y396.2]) [] H400 (by decide) (by kernel_rfl) trivial fun _ _ H402 hb => ?_
      replace hS:=hS.below hb
      clear H400 hb
      apply wl_end rfl
      replace hS : SH M X w [eO 51 tyValue y396.1 g397,eI tyValue z322 g345,eB b317 [vS y312.Name,vL g345 z322,vB y312.Important],eO 51 tyValue q303 g311,eB b287 [vS y282.Name,vL g311 q303,vB y282.Important],eI tyValue q272 g280,eB b251 [vS y246.Name,vL g280 q272,vB y246.Important],eB b226 [vS y221.Name,vL g241 q238,vB y221.Important],eO 51 tyValue q238 g241,gE0] _:=hS.sel [0,2,3,4,5,6,7,8,9,10] rfl
      apply w_seq
      apply wl_start
      refine wl_batch 0 2 [(vL g345 z322)] [1,2,3,4,5,6,7,10,11,12,13,16,18,20,22,23,24,160] (fS [1,2,3,4,5,6,7,10,11,12,13,16,18,20,22,23,24,160] [vB y12,vB y24,vB y36,vB y48,vB z51,vB z105,vB z159,vP b226,vP b251,vP b287,vP b317,vI y348.2,vI y360.2,vI y372.2,vI y384.2,vL g397 y396.1,vI y396.2,vL g345 z322]) [rA b317 1 (vL g345 z322)] H402 (by decide) (by kernel_rfl) ⟨((hS.bk 2 rfl).at1 rfl),trivial⟩ fun _ _ H404 hb => ?_
      replace hS:=hS.below hb
      clear H402 hb
      obtain ⟨y405,hy405,hm⟩:=bindE hm
      have hd:=hS.hand [1,9] [0,1,2,3,4,5,6,7,8,9] rfl rfl
      refine m_stp [161,1,2,3,4,5,6,7,10,11,12,13,16,18,20,22,23,24] (fS [1,2,3,4,5,6,7,10,11,12,13,16,18,20,22,23,24] [vB y12,vB y24,vB y36,vB y48,vB z51,vB z105,vB z159,vP b226,vP b251,vP b287,vP b317,vI y348.2,vI y360.2,vI y372.2,vI y384.2,vL g397 y396.1,vI y396.2]) H404 rfl rfl rfl rfl (o_callx H404 rfl rfl (short_Part_ok (g_l_:=g345) m _ _ _ _ hy405 _ _ hd)) (fun _ => rfl) fun _ _ v H409 hq => ?_
      clear H404 hd
      obtain ⟨g406,rfl,hq⟩:=hq
      replace hS : SH M X w [eO 51 tyValue y405.1 g406,eO 51 tyValue y396.1 g397,eI tyValue z322 g345,eB b317 [vS y312.Name,vL g345 z322,vB y312.Important],eO 51 tyValue q303 g311,eB b287 [vS y282.Name,vL g311 q303,vB y282.Important],eI tyValue q272 g280,eB b251 [vS y246.Name,vL g280 q272,vB y246.Important],eB b226 [vS y221.Name,vL g241 q238,vB y221.Important],eO 51 tyValue q238 g241,gE0] _:=hS.join [1,9] [0,1,2,3,4,5,6,7,8,9] rfl rfl hq
      clear hq
      refine wl_batch 3 8 [] [1,2,3,4,5,6,7,10,11,12,13,16,18,20,22,23,24,26] (fS [1,2,3,4,5,6,7,10,11,12,13,16,18,20,22,23,24,26] [vB y12,vB y24,vB y36,vB y48,vB z51,vB z105,vB z159,vP b226,vP b251,vP b287,vP b317,vI y348.2,vI y360.2,vI y372.2,vI y384.2,vL g397 y396.1,vI y396.2,vI y405.2]) [] H409 (by decide) (by kernel_rfl) trivial fun _ _ H411 hb => ?_
      replace hS:=hS.below hb
      clear H409 hb
      apply wl_end rfl
      replace hS : SH M X w [eO 51 tyValue y396.1 g397,eI tyValue z322 g345,eB b317 [vS y312.Name,vL g345 z322,vB y312.Important],eO 51 tyValue q303 g311,eB b287 [vS y282.Name,vL g311 q303,vB y282.Important],eI tyValue q272 g280,eB b251 [vS y246.Name,vL g280 q272,vB y246.Important],eB b226 [vS y221.Name,vL g241 q238,vB y221.Important],eO 51 tyValue q238 g241,gE0] _:=hS.sel [1,2,3,4,5,6,7,8,9,10] rfl
      apply w_seq
      apply wl_start
      obtain ⟨y412,hy412,hm⟩:=bindE hm
      have hd:=hS.hand [9] [0,1,2,3,4,5,6,7,8,9] rfl rfl
      refine m_stp [165,1,2,3,4,5,6,7,10,11,12,13,16,18,20,22,23,24,26] (fS [1,2,3,4,5,6,7,10,11,12,13,16,18,20,22,23,24,26] [vB y12,vB y24,vB y36,vB y48,vB z51,vB z105,vB z159,vP b226,vP b251,vP b287,vP b317,vI y348.2,vI y360.2,vI y372.2,vI y384.2,vL g397 y396.1,vI y396.2,vI y405.2]) H411 rfl rfl rfl rfl (o_callx H411 rfl rfl (short_Longs_ok 64 _ _ hy412 _ _ hd)) (fun _ => rfl) fun _ _ v H416 hq => ?_
      clear H411 hd
      obtain ⟨g413,rfl,hq⟩:=hq
      replace hS : SH M X w [eO 9 tS y412.1 g413,eO 51 tyValue y396.1 g397,eI tyValue z322 g345,eB b317 [vS y312.Name,vL g345 z322,vB y312.Important],eO 51 tyValue q303 g311,eB b287 [vS y282.Name,vL g311 q303,vB y282.Important],eI tyValue q272 g280,eB b251 [vS y246.Name,vL g280 q272,vB y246.Important],eB b226 [vS y221.Name,vL g241 q238,vB y221.Important],eO 51 tyValue q238 g241,gE0] _:=hS.join [9] [0,1,2,3,4,5,6,7,8,9] rfl rfl hq
      clear hq
      refine wl_batch 1 6 [] [1,2,3,4,5,6,7,10,11,12,13,16,18,20,22,23,24,26,28] (fS [1,2,3,4,5,6,7,10,11,12,13,16,18,20,22,23,24,26,28] [vB y12,vB y24,vB y36,vB y48,vB z51,vB z105,vB z159,vP b226,vP b251,vP b287,vP b317,vI y348.2,vI y360.2,vI y372.2,vI y384.2,vL g397 y396.1,vI y396.2,vI y405.2,vI y412.2]) [] H416 (by decide) (by kernel_rfl) trivial fun _ _ H418 hb => ?_
      replace hS:=hS.below hb
      clear H416 hb
      apply wl_end rfl
      replace hS : SH M X w [eO 51 tyValue y396.1 g397,eI tyValue z322 g345,eB b317 [vS y312.Name,vL g345 z322,vB y312.Important],eO 51 tyValue q303 g311,eB b287 [vS y282.Name,vL g311 q303,vB y282.Important],eI tyValue q272 g280,eB b251 [vS y246.Name,vL g280 q272,vB y246.Important],eB b226 [vS y221.Name,vL g241 q238,vB y221.Important],eO 51 tyValue q238 g241,gE0] _:=hS.sel [1,2,3,4,5,6,7,8,9,10] rfl
      apply w_seq
      apply wl_start
      obtain ⟨y419,hy419,hm⟩:=bindE hm
      have hd:=hS.hand [9] [0,1,2,3,4,5,6,7,8,9] rfl rfl
      refine m_stp [169,1,2,3,4,5,6,7,10,11,12,13,16,18,20,22,23,24,26,28] (fS [1,2,3,4,5,6,7,10,11,12,13,16,18,20,22,23,24,26,28] [vB y12,vB y24,vB y36,vB y48,vB z51,vB z105,vB z159,vP b226,vP b251,vP b287,vP b317,vI y348.2,vI y360.2,vI y372.2,vI y384.2,vL g397 y396.1,vI y396.2,vI y405.2,vI y412.2]) H418 rfl rfl rfl rfl (o_callx H418 rfl rfl (short_Longs_ok 64 _ _ hy419 _ _ hd)) (fun _ => rfl) fun _ _ v H423 hq => ?_
      clear H418 hd
      obtain ⟨g420,rfl,hq⟩:=hq
      replace hS : SH M X w [eO 9 tS y419.1 g420,eO 51 tyValue y396.1 g397,eI tyValue z322 g345,eB b317 [vS y312.Name,vL g345 z322,vB y312.Important],eO 51 tyValue q303 g311,eB b287 [vS y282.Name,vL g311 q303,vB y282.Important],eI tyValue q272 g280,eB b251 [vS y246.Name,vL g280 q272,vB y246.Important],eB b226 [vS y221.Name,vL g241 q238,vB y221.Important],eO 51 tyValue q238 g241,gE0] _:=hS.join [9] [0,1,2,3,4,5,6,7,8,9] rfl rfl hq
      clear hq
      refine wl_batch 1 6 [] [1,2,3,4,5,6,7,10,11,12,13,16,18,20,22,23,24,26,28,29,30] (fS [1,2,3,4,5,6,7,10,11,12,13,16,18,20,22,23,24,26,28,29,30] [vB y12,vB y24,vB y36,vB y48,vB z51,vB z105,vB z159,vP b226,vP b251,vP b287,vP b317,vI y348.2,vI y360.2,vI y372.2,vI y384.2,vL g397 y396.1,vI y396.2,vI y405.2,vI y412.2,vL g420 y419.1,vI y419.2]) [] H423 (by decide) (by kernel_rfl) trivial fun _ _ H425 hb => ?_
      replace hS:=hS.below hb
      clear H423 hb
      apply wl_end rfl
      apply w_seq
      apply wl_start
      obtain ⟨y426,hy426,hm⟩:=bindE hm
      have hd:=hS.hand [10] [0,1,2,3,4,5,6,7,8,9,10] rfl rfl
      refine m_stp [173,1,2,3,4,5,6,7,10,11,12,13,16,18,20,22,23,24,26,28,29,30] (fS [1,2,3,4,5,6,7,10,11,12,13,16,18,20,22,23,24,26,28,29,30] [vB y12,vB y24,vB y36,vB y48,vB z51,vB z105,vB z159,vP b226,vP b251,vP b287,vP b317,vI y348.2,vI y360.2,vI y372.2,vI y384.2,vL g397 y396.1,vI y396.2,vI y405.2,vI y412.2,vL g420 y419.1,vI y419.2]) H425 rfl rfl rfl rfl (o_callx H425 rfl rfl (short_Longs_ok 64 _ _ hy426 _ _ hd)) (fun _ => rfl) fun _ _ v H430 hq => ?_
      clear H425 hd
      obtain ⟨g427,rfl,hq⟩:=hq
      replace hS : SH M X w [eO 9 tS y426.1 g427,eO 9 tS y419.1 g420,eO 51 tyValue y396.1 g397,eI tyValue z322 g345,eB b317 [vS y312.Name,vL g345 z322,vB y312.Important],eO 51 tyValue q303 g311,eB b287 [vS y282.Name,vL g311 q303,vB y282.Important],eI tyValue q272 g280,eB b251 [vS y246.Name,vL g280 q272,vB y246.Important],eB b226 [vS y221.Name,vL g241 q238,vB y221.Important],eO 51 tyValue q238 g241,gE0] _:=hS.join [10] [0,1,2,3,4,5,6,7,8,9,10] rfl rfl hq
      clear hq
      refine wl_batch 1 6 [] [1,2,3,4,5,6,7,10,11,12,13,16,18,20,22,23,24,26,28,29,30,31,32] (fS [1,2,3,4,5,6,7,10,11,12,13,16,18,20,22,23,24,26,28,29,30,31,32] [vB y12,vB y24,vB y36,vB y48,vB z51,vB z105,vB z159,vP b226,vP b251,vP b287,vP b317,vI y348.2,vI y360.2,vI y372.2,vI y384.2,vL g397 y396.1,vI y396.2,vI y405.2,vI y412.2,vL g420 y419.1,vI y419.2,vL g427 y426.1,vI y426.2]) [] H430 (by decide) (by kernel_rfl) trivial fun _ _ H432 hb => ?_
      replace hS:=hS.below hb
      clear H430 hb
      apply wl_end rfl
      obtain ⟨z433,hz,hm⟩:=bindE hm
      refine w_cut (fun a' w' => Fr 302 [(0,[],vB z433)] a' ∧ SH M X w [eO 9 tS y426.1 g427,eO 9 tS y419.1 g420,eO 51 tyValue y396.1 g397,eI tyValue z322 g345,eB b317 [vS y312.Name,vL g345 z322,vB y312.Important],eO 51 tyValue q303 g311,eB b287 [vS y282.Name,vL g311 q303,vB y282.Important],eI tyValue q272 g280,eB b251 [vS y246.Name,vL g280 q272,vB y246.Important],eB b226 [vS y221.Name,vL g241 q238,vB y221.Important],eO 51 tyValue q238 g241,gE0] w') ?_ ?_
      ·replace hm:=hz
       apply wl_start
       obtain ⟨y434,hy434,hm⟩:=bindE hm
       obtain ⟨x435,hx435,hm⟩:=letE hm
       obtain ⟨x436,hx436,hm⟩:=letE hm
       obtain ⟨x437,hx437,hm⟩:=letE hm
       refine wl_batch 0 23 [(vB y434)] [10,11,12,13,16,18,20,22,23,24,26,28,29,30,31,32,198] (fS [10,11,12,13,16,18,20,22,23,24,26,28,29,30,31,32,198] [vP b226,vP b251,vP b287,vP b317,vI y348.2,vI y360.2,vI y372.2,vI y384.2,vL g397 y396.1,vI y396.2,vI y405.2,vI y412.2,vL g420 y419.1,vI y419.2,vL g427 y426.1,vI y426.2,vB x437]) [rB 15 [] (vB y434)] H432 (by decide) (by subst hx435 hx436 hx437; kernel_rfl) ⟨(law27_alive_ok 300 _ hy434 _ (s0im s0nil (hS.im 11 rfl))),trivial⟩ fun _ _ H439 hb => ?_
       replace hS:=hS.below hb
       clear H432 hb
       cases x437
       case false =>
        replace hm:=bF rfl hm
        refine m_skipG 198 [199,10,12,13,16,18,20,22,23,24,26,28,29,30,31,32,198] (fS [199,10,12,13,16,18,20,22,23,24,26,28,29,30,31,32,198] [undef,vP b226,vP b287,vP b317,vI y348.2,vI y360.2,vI y372.2,vI y384.2,vL g397 y396.1,vI y396.2,vI y405.2,vI y412.2,vL g420 y419.1,vI y419.2,vL g427 y426.1,vI y426.2,vF]) H439 rfl rfl rfl rfl rfl rfl fun _ H1000 => ?_
        clear H439
        refine m_skipG 198 [200,10,12,13,16,18,20,22,23,24,26,28,29,30,31,32,198,199] (fS [200,10,12,13,16,18,20,22,23,24,26,28,29,30,31,32,198,199] [undef,vP b226,vP b287,vP b317,vI y348.2,vI y360.2,vI y372.2,vI y384.2,vL g397 y396.1,vI y396.2,vI y405.2,vI y412.2,vL g420 y419.1,vI y419.2,vL g427 y426.1,vI y426.2,vF,undef]) H1000 rfl rfl rfl rfl rfl rfl fun _ H1001 => ?_
        clear H1000
        refine m_skipG 198 [201,10,12,13,16,18,20,22,23,24,26,28,29,30,31,32,198] (fS [201,10,12,13,16,18,20,22,23,24,26,28,29,30,31,32,198] [undef,vP b226,vP b287,vP b317,vI y348.2,vI y360.2,vI y372.2,vI y384.2,vL g397 y396.1,vI y396.2,vI y405.2,vI y412.2,vL g420 y419.1,vI y419.2,vL g427 y426.1,vI y426.2,vF]) H1001 rfl rfl rfl rfl rfl rfl fun _ H1002 => ?_
        clear H1001
        refine wl_batch 26 28 [] [10,12,13,16,18,20,22,23,24,26,28,29,30,31,32,203] (fS [10,12,13,16,18,20,22,23,24,26,28,29,30,31,32,203] [vP b226,vP b287,vP b317,vI y348.2,vI y360.2,vI y372.2,vI y384.2,vL g397 y396.1,vI y396.2,vI y405.2,vI y412.2,vL g420 y419.1,vI y419.2,vL g427 y426.1,vI y426.2,vF]) [] H1002 (by decide) (by kernel_rfl) trivial fun _ _ H1004 hb => ?_
        replace hS:=hS.below hb
        clear H1002 hb
        refine m_skipG 203 [204,10,13,16,18,20,22,23,24,26,28,29,30,31,32,203] (fS [204,10,13,16,18,20,22,23,24,26,28,29,30,31,32,203] [undef,vP b226,vP b317,vI y348.2,vI y360.2,vI y372.2,vI y384.2,vL g397 y396.1,vI y396.2,vI y405.2,vI y412.2,vL g420 y419.1,vI y419.2,vL g427 y426.1,vI y426.2,vF]) H1004 rfl rfl rfl rfl rfl rfl fun _ H1005 => ?_
        clear H1004
        refine m_skipG 203 [205,10,13,16,18,20,22,23,24,26,28,29,30,31,32,203] (fS [205,10,13,16,18,20,22,23,24,26,28,29,30,31,32,203] [undef,vP b226,vP b317,vI y348.2,vI y360.2,vI y372.2,vI y384.2,vL g397 y396.1,vI y396.2,vI y405.2,vI y412.2,vL g420 y419.1,vI y419.2,vL g427 y426.1,vI y426.2,vF]) H1005 rfl rfl rfl rfl rfl rfl fun _ H1006 => ?_
        clear H1005
        refine wl_batch 30 32 [] [10,13,16,18,20,22,23,24,26,28,29,30,31,32,207] (fS [10,13,16,18,20,22,23,24,26,28,29,30,31,32,207] [vP b226,vP b317,vI y348.2,vI y360.2,vI y372.2,vI y384.2,vL g397 y396.1,vI y396.2,vI y405.2,vI y412.2,vL g420 y419.1,vI y419.2,vL g427 y426.1,vI y426.2,vF]) [] H1006 (by decide) (by kernel_rfl) trivial fun _ _ H1008 hb => ?_
        replace hS:=hS.below hb
        clear H1006 hb
        refine m_skipG 207 [208,13,16,18,20,22,23,24,26,28,29,30,31,32,207] (fS [208,13,16,18,20,22,23,24,26,28,29,30,31,32,207] [undef,vP b317,vI y348.2,vI y360.2,vI y372.2,vI y384.2,vL g397 y396.1,vI y396.2,vI y405.2,vI y412.2,vL g420 y419.1,vI y419.2,vL g427 y426.1,vI y426.2,vF]) H1008 rfl rfl rfl rfl rfl rfl fun _ H1009 => ?_
        clear H1008
        refine m_skipG 207 [209,13,16,18,20,22,23,24,26,28,29,30,31,32,207] (fS [209,13,16,18,20,22,23,24,26,28,29,30,31,32,207] [undef,vP b317,vI y348.2,vI y360.2,vI y372.2,vI y384.2,vL g397 y396.1,vI y396.2,vI y405.2,vI y412.2,vL g420 y419.1,vI y419.2,vL g427 y426.1,vI y426.2,vF]) H1009 rfl rfl rfl rfl rfl rfl fun _ H1010 => ?_
        clear H1009
        refine wl_batch 34 36 [] [13,16,18,20,22,23,24,26,28,29,30,31,32,211] (fS [13,16,18,20,22,23,24,26,28,29,30,31,32,211] [vP b317,vI y348.2,vI y360.2,vI y372.2,vI y384.2,vL g397 y396.1,vI y396.2,vI y405.2,vI y412.2,vL g420 y419.1,vI y419.2,vL g427 y426.1,vI y426.2,vF]) [] H1010 (by decide) (by kernel_rfl) trivial fun _ _ H1012 hb => ?_
        replace hS:=hS.below hb
        clear H1010 hb
        refine m_skipG 211 [212,16,18,20,22,23,24,26,28,29,30,31,32,211] (fS [212,16,18,20,22,23,24,26,28,29,30,31,32,211] [undef,vI y348.2,vI y360.2,vI y372.2,vI y384.2,vL g397 y396.1,vI y396.2,vI y405.2,vI y412.2,vL g420 y419.1,vI y419.2,vL g427 y426.1,vI y426.2,vF]) H1012 rfl rfl rfl rfl rfl rfl fun _ H1013 => ?_
        clear H1012
        refine m_skipG 211 [213,16,18,20,22,23,24,26,28,29,30,31,32,211] (fS [213,16,18,20,22,23,24,26,28,29,30,31,32,211] [undef,vI y348.2,vI y360.2,vI y372.2,vI y384.2,vL g397 y396.1,vI y396.2,vI y405.2,vI y412.2,vL g420 y419.1,vI y419.2,vL g427 y426.1,vI y426.2,vF]) H1013 rfl rfl rfl rfl rfl rfl fun _ H1014 => ?_
        clear H1013
        refine wl_batch 38 40 [] [16,18,20,22,23,24,26,28,29,30,31,32,215] (fS [16,18,20,22,23,24,26,28,29,30,31,32,215] [vI y348.2,vI y360.2,vI y372.2,vI y384.2,vL g397 y396.1,vI y396.2,vI y405.2,vI y412.2,vL g420 y419.1,vI y419.2,vL g427 y426.1,vI y426.2,vF]) [] H1014 (by decide) (by kernel_rfl) trivial fun _ _ H1016 hb => ?_
        replace hS:=hS.below hb
        clear H1014 hb
        refine m_skipG 215 [216,16,18,20,22,23,24,26,28,29,30,31,32,215] (fS [216,16,18,20,22,23,24,26,28,29,30,31,32,215] [undef,vI y348.2,vI y360.2,vI y372.2,vI y384.2,vL g397 y396.1,vI y396.2,vI y405.2,vI y412.2,vL g420 y419.1,vI y419.2,vL g427 y426.1,vI y426.2,vF]) H1016 rfl rfl rfl rfl rfl rfl fun _ H1017 => ?_
        clear H1016
        refine m_skipG 215 [217,16,18,20,22,23,24,26,28,29,30,31,32,215] (fS [217,16,18,20,22,23,24,26,28,29,30,31,32,215] [undef,vI y348.2,vI y360.2,vI y372.2,vI y384.2,vL g397 y396.1,vI y396.2,vI y405.2,vI y412.2,vL g420 y419.1,vI y419.2,vL g427 y426.1,vI y426.2,vF]) H1017 rfl rfl rfl rfl rfl rfl fun _ H1018 => ?_
        clear H1017
        refine wl_batch 42 44 [] [16,18,20,22,23,24,26,28,29,30,31,32,219] (fS [16,18,20,22,23,24,26,28,29,30,31,32,219] [vI y348.2,vI y360.2,vI y372.2,vI y384.2,vL g397 y396.1,vI y396.2,vI y405.2,vI y412.2,vL g420 y419.1,vI y419.2,vL g427 y426.1,vI y426.2,vF]) [] H1018 (by decide) (by kernel_rfl) trivial fun _ _ H1020 hb => ?_
        replace hS:=hS.below hb
        clear H1018 hb
        refine m_skipG 219 [220,16,18,20,22,23,24,26,28,29,30,31,32,219] (fS [220,16,18,20,22,23,24,26,28,29,30,31,32,219] [undef,vI y348.2,vI y360.2,vI y372.2,vI y384.2,vL g397 y396.1,vI y396.2,vI y405.2,vI y412.2,vL g420 y419.1,vI y419.2,vL g427 y426.1,vI y426.2,vF]) H1020 rfl rfl rfl rfl rfl rfl fun _ H1021 => ?_
        clear H1020
        refine m_skipG 219 [221,16,18,20,22,23,24,26,28,29,30,31,32,219] (fS [221,16,18,20,22,23,24,26,28,29,30,31,32,219] [undef,vI y348.2,vI y360.2,vI y372.2,vI y384.2,vL g397 y396.1,vI y396.2,vI y405.2,vI y412.2,vL g420 y419.1,vI y419.2,vL g427 y426.1,vI y426.2,vF]) H1021 rfl rfl rfl rfl rfl rfl fun _ H1022 => ?_
        clear H1021
        refine wl_batch 46 48 [] [16,18,20,22,23,24,26,28,29,30,31,32,223] (fS [16,18,20,22,23,24,26,28,29,30,31,32,223] [vI y348.2,vI y360.2,vI y372.2,vI y384.2,vL g397 y396.1,vI y396.2,vI y405.2,vI y412.2,vL g420 y419.1,vI y419.2,vL g427 y426.1,vI y426.2,vF]) [] H1022 (by decide) (by kernel_rfl) trivial fun _ _ H1024 hb => ?_
        replace hS:=hS.below hb
        clear H1022 hb
        refine m_skipG 223 [224,16,18,20,22,23,24,26,28,29,30,31,32,223] (fS [224,16,18,20,22,23,24,26,28,29,30,31,32,223] [undef,vI y348.2,vI y360.2,vI y372.2,vI y384.2,vL g397 y396.1,vI y396.2,vI y405.2,vI y412.2,vL g420 y419.1,vI y419.2,vL g427 y426.1,vI y426.2,vF]) H1024 rfl rfl rfl rfl rfl rfl fun _ H1025 => ?_
        clear H1024
        refine m_skipG 223 [225,16,18,20,22,23,24,26,28,29,30,31,32,223] (fS [225,16,18,20,22,23,24,26,28,29,30,31,32,223] [undef,vI y348.2,vI y360.2,vI y372.2,vI y384.2,vL g397 y396.1,vI y396.2,vI y405.2,vI y412.2,vL g420 y419.1,vI y419.2,vL g427 y426.1,vI y426.2,vF]) H1025 rfl rfl rfl rfl rfl rfl fun _ H1026 => ?_
        clear H1025
        refine wl_batch 50 52 [] [16,18,20,22,23,24,26,28,29,30,31,32,227] (fS [16,18,20,22,23,24,26,28,29,30,31,32,227] [vI y348.2,vI y360.2,vI y372.2,vI y384.2,vL g397 y396.1,vI y396.2,vI y405.2,vI y412.2,vL g420 y419.1,vI y419.2,vL g427 y426.1,vI y426.2,vF]) [] H1026 (by decide) (by kernel_rfl) trivial fun _ _ H1028 hb => ?_
        replace hS:=hS.below hb
        clear H1026 hb
        refine m_skipG 227 [228,18,20,22,23,24,26,28,29,30,31,32,227] (fS [228,18,20,22,23,24,26,28,29,30,31,32,227] [undef,vI y360.2,vI y372.2,vI y384.2,vL g397 y396.1,vI y396.2,vI y405.2,vI y412.2,vL g420 y419.1,vI y419.2,vL g427 y426.1,vI y426.2,vF]) H1028 rfl rfl rfl rfl rfl rfl fun _ H1029 => ?_
        clear H1028
        refine m_skipG 227 [229,18,20,22,23,24,26,28,29,30,31,32,227] (fS [229,18,20,22,23,24,26,28,29,30,31,32,227] [undef,vI y360.2,vI y372.2,vI y384.2,vL g397 y396.1,vI y396.2,vI y405.2,vI y412.2,vL g420 y419.1,vI y419.2,vL g427 y426.1,vI y426.2,vF]) H1029 rfl rfl rfl rfl rfl rfl fun _ H1030 => ?_
        clear H1029
        refine wl_batch 54 56 [] [18,20,22,23,24,26,28,29,30,31,32,231] (fS [18,20,22,23,24,26,28,29,30,31,32,231] [vI y360.2,vI y372.2,vI y384.2,vL g397 y396.1,vI y396.2,vI y405.2,vI y412.2,vL g420 y419.1,vI y419.2,vL g427 y426.1,vI y426.2,vF]) [] H1030 (by decide) (by kernel_rfl) trivial fun _ _ H1032 hb => ?_
        replace hS:=hS.below hb
        clear H1030 hb
        refine m_skipG 231 [232,20,22,23,24,26,28,29,30,31,32,231] (fS [232,20,22,23,24,26,28,29,30,31,32,231] [undef,vI y372.2,vI y384.2,vL g397 y396.1,vI y396.2,vI y405.2,vI y412.2,vL g420 y419.1,vI y419.2,vL g427 y426.1,vI y426.2,vF]) H1032 rfl rfl rfl rfl rfl rfl fun _ H1033 => ?_
        clear H1032
        refine m_skipG 231 [233,20,22,23,24,26,28,29,30,31,32,231] (fS [233,20,22,23,24,26,28,29,30,31,32,231] [undef,vI y372.2,vI y384.2,vL g397 y396.1,vI y396.2,vI y405.2,vI y412.2,vL g420 y419.1,vI y419.2,vL g427 y426.1,vI y426.2,vF]) H1033 rfl rfl rfl rfl rfl rfl fun _ H1034 => ?_
        clear H1033
        refine wl_batch 58 60 [] [20,22,23,24,26,28,29,30,31,32,235] (fS [20,22,23,24,26,28,29,30,31,32,235] [vI y372.2,vI y384.2,vL g397 y396.1,vI y396.2,vI y405.2,vI y412.2,vL g420 y419.1,vI y419.2,vL g427 y426.1,vI y426.2,vF]) [] H1034 (by decide) (by kernel_rfl) trivial fun _ _ H1036 hb => ?_
        replace hS:=hS.below hb
        clear H1034 hb
        refine m_skipG 235 [236,22,23,24,26,28,29,30,31,32,235] (fS [236,22,23,24,26,28,29,30,31,32,235] [undef,vI y384.2,vL g397 y396.1,vI y396.2,vI y405.2,vI y412.2,vL g420 y419.1,vI y419.2,vL g427 y426.1,vI y426.2,vF]) H1036 rfl rfl rfl rfl rfl rfl fun _ H1037 => ?_
        clear H1036
        refine m_skipG 235 [237,22,23,24,26,28,29,30,31,32,235] (fS [237,22,23,24,26,28,29,30,31,32,235] [undef,vI y384.2,vL g397 y396.1,vI y396.2,vI y405.2,vI y412.2,vL g420 y419.1,vI y419.2,vL g427 y426.1,vI y426.2,vF]) H1037 rfl rfl rfl rfl rfl rfl fun _ H1038 => ?_
        clear H1037
        refine wl_batch 62 64 [] [22,23,24,26,28,29,30,31,32,239] (fS [22,23,24,26,28,29,30,31,32,239] [vI y384.2,vL g397 y396.1,vI y396.2,vI y405.2,vI y412.2,vL g420 y419.1,vI y419.2,vL g427 y426.1,vI y426.2,vF]) [] H1038 (by decide) (by kernel_rfl) trivial fun _ _ H1040 hb => ?_
        replace hS:=hS.below hb
        clear H1038 hb
        refine m_skipG 239 [240,23,24,26,28,29,30,31,32,239] (fS [240,23,24,26,28,29,30,31,32,239] [undef,vL g397 y396.1,vI y396.2,vI y405.2,vI y412.2,vL g420 y419.1,vI y419.2,vL g427 y426.1,vI y426.2,vF]) H1040 rfl rfl rfl rfl rfl rfl fun _ H1041 => ?_
        clear H1040
        refine m_skipG 239 [241,23,24,26,28,29,30,31,32,239] (fS [241,23,24,26,28,29,30,31,32,239] [undef,vL g397 y396.1,vI y396.2,vI y405.2,vI y412.2,vL g420 y419.1,vI y419.2,vL g427 y426.1,vI y426.2,vF]) H1041 rfl rfl rfl rfl rfl rfl fun _ H1042 => ?_
        clear H1041
        refine wl_batch 66 68 [] [23,24,26,28,29,30,31,32,243] (fS [23,24,26,28,29,30,31,32,243] [vL g397 y396.1,vI y396.2,vI y405.2,vI y412.2,vL g420 y419.1,vI y419.2,vL g427 y426.1,vI y426.2,vF]) [] H1042 (by decide) (by kernel_rfl) trivial fun _ _ H1044 hb => ?_
        replace hS:=hS.below hb
        clear H1042 hb
        refine m_skipG 243 [244,23,26,28,29,30,31,32,243] (fS [244,23,26,28,29,30,31,32,243] [undef,vL g397 y396.1,vI y405.2,vI y412.2,vL g420 y419.1,vI y419.2,vL g427 y426.1,vI y426.2,vF]) H1044 rfl rfl rfl rfl rfl rfl fun _ H1045 => ?_
        clear H1044
        refine m_skipG 243 [245,23,26,28,29,30,31,32,243] (fS [245,23,26,28,29,30,31,32,243] [undef,vL g397 y396.1,vI y405.2,vI y412.2,vL g420 y419.1,vI y419.2,vL g427 y426.1,vI y426.2,vF]) H1045 rfl rfl rfl rfl rfl rfl fun _ H1046 => ?_
        clear H1045
        refine wl_batch 70 72 [] [23,26,28,29,30,31,32,247] (fS [23,26,28,29,30,31,32,247] [vL g397 y396.1,vI y405.2,vI y412.2,vL g420 y419.1,vI y419.2,vL g427 y426.1,vI y426.2,vF]) [] H1046 (by decide) (by kernel_rfl) trivial fun _ _ H1048 hb => ?_
        replace hS:=hS.below hb
        clear H1046 hb
        refine m_skipG 247 [248,26,28,29,30,31,32,247] (fS [248,26,28,29,30,31,32,247] [undef,vI y405.2,vI y412.2,vL g420 y419.1,vI y419.2,vL g427 y426.1,vI y426.2,vF]) H1048 rfl rfl rfl rfl rfl rfl fun _ H1049 => ?_
        clear H1048
        refine m_skipG 247 [249,26,28,29,30,31,32,247,248] (fS [249,26,28,29,30,31,32,247,248] [undef,vI y405.2,vI y412.2,vL g420 y419.1,vI y419.2,vL g427 y426.1,vI y426.2,vF,undef]) H1049 rfl rfl rfl rfl rfl rfl fun _ H1050 => ?_
        clear H1049
        refine m_skipG 247 [250,26,28,29,30,31,32,247] (fS [250,26,28,29,30,31,32,247] [undef,vI y405.2,vI y412.2,vL g420 y419.1,vI y419.2,vL g427 y426.1,vI y426.2,vF]) H1050 rfl rfl rfl rfl rfl rfl fun _ H1051 => ?_
        clear H1050
        refine wl_batch 75 77 [] [26,28,29,30,31,32,252] (fS [26,28,29,30,31,32,252] [vI y405.2,vI y412.2,vL g420 y419.1,vI y419.2,vL g427 y426.1,vI y426.2,vF]) [] H1051 (by decide) (by kernel_rfl) trivial fun _ _ H1053 hb => ?_
        replace hS:=hS.below hb
        clear H1051 hb
        refine m_skipG 252 [253,28,29,30,31,32,252] (fS [253,28,29,30,31,32,252] [undef,vI y412.2,vL g420 y419.1,vI y419.2,vL g427 y426.1,vI y426.2,vF]) H1053 rfl rfl rfl rfl rfl rfl fun _ H1054 => ?_
        clear H1053
        refine m_skipG 252 [254,28,29,30,31,32,252] (fS [254,28,29,30,31,32,252] [undef,vI y412.2,vL g420 y419.1,vI y419.2,vL g427 y426.1,vI y426.2,vF]) H1054 rfl rfl rfl rfl rfl rfl fun _ H1055 => ?_
        clear H1054
        refine wl_batch 79 81 [] [28,29,30,31,32,256] (fS [28,29,30,31,32,256] [vI y412.2,vL g420 y419.1,vI y419.2,vL g427 y426.1,vI y426.2,vF]) [] H1055 (by decide) (by kernel_rfl) trivial fun _ _ H1057 hb => ?_
        replace hS:=hS.below hb
        clear H1055 hb
        refine m_skipG 256 [257,29,30,31,32,256] (fS [257,29,30,31,32,256] [undef,vL g420 y419.1,vI y419.2,vL g427 y426.1,vI y426.2,vF]) H1057 rfl rfl rfl rfl rfl rfl fun _ H1058 => ?_
        clear H1057
        refine m_skipG 256 [258,29,30,31,32,256] (fS [258,29,30,31,32,256] [undef,vL g420 y419.1,vI y419.2,vL g427 y426.1,vI y426.2,vF]) H1058 rfl rfl rfl rfl rfl rfl fun _ H1059 => ?_
        clear H1058
        refine wl_batch 83 85 [] [29,30,31,32,260] (fS [29,30,31,32,260] [vL g420 y419.1,vI y419.2,vL g427 y426.1,vI y426.2,vF]) [] H1059 (by decide) (by kernel_rfl) trivial fun _ _ H1061 hb => ?_
        replace hS:=hS.below hb
        clear H1059 hb
        refine m_skipG 260 [261,29,31,32,260] (fS [261,29,31,32,260] [undef,vL g420 y419.1,vL g427 y426.1,vI y426.2,vF]) H1061 rfl rfl rfl rfl rfl rfl fun _ H1062 => ?_
        clear H1061
        refine m_skipG 260 [262,29,31,32,260] (fS [262,29,31,32,260] [undef,vL g420 y419.1,vL g427 y426.1,vI y426.2,vF]) H1062 rfl rfl rfl rfl rfl rfl fun _ H1063 => ?_
        clear H1062
        refine wl_batch 87 89 [] [29,31,32,264] (fS [29,31,32,264] [vL g420 y419.1,vL g427 y426.1,vI y426.2,vF]) [] H1063 (by decide) (by kernel_rfl) trivial fun _ _ H1065 hb => ?_
        replace hS:=hS.below hb
        clear H1063 hb
        refine m_skipG 264 [265,31,32,264] (fS [265,31,32,264] [undef,vL g427 y426.1,vI y426.2,vF]) H1065 rfl rfl rfl rfl rfl rfl fun _ H1066 => ?_
        clear H1065
        refine m_skipG 264 [266,31,32,264,265] (fS [266,31,32,264,265] [undef,vL g427 y426.1,vI y426.2,vF,undef]) H1066 rfl rfl rfl rfl rfl rfl fun _ H1067 => ?_
        clear H1066
        refine m_skipG 264 [267,31,32,264] (fS [267,31,32,264] [undef,vL g427 y426.1,vI y426.2,vF]) H1067 rfl rfl rfl rfl rfl rfl fun _ H1068 => ?_
        clear H1067
        refine wl_batch 92 94 [] [31,32,269] (fS [31,32,269] [vL g427 y426.1,vI y426.2,vF]) [] H1068 (by decide) (by kernel_rfl) trivial fun _ _ H1070 hb => ?_
        replace hS:=hS.below hb
        clear H1068 hb
        refine m_skipG 269 [270,31,269] (fS [270,31,269] [undef,vL g427 y426.1,vF]) H1070 rfl rfl rfl rfl rfl rfl fun _ H1071 => ?_
        clear H1070
        refine m_skipG 269 [271,31,269] (fS [271,31,269] [undef,vL g427 y426.1,vF]) H1071 rfl rfl rfl rfl rfl rfl fun _ H1072 => ?_
        clear H1071
        refine wl_batch 96 98 [] [31,273] (fS [31,273] [vL g427 y426.1,vF]) [] H1072 (by decide) (by kernel_rfl) trivial fun _ _ H1074 hb => ?_
        replace hS:=hS.below hb
        clear H1072 hb
        refine m_skipG 273 [274,273] (fS [274,273] [undef,vF]) H1074 rfl rfl rfl rfl rfl rfl fun _ H1075 => ?_
        clear H1074
        refine m_skipG 273 [275,273,274] (fS [275,273,274] [undef,vF,undef]) H1075 rfl rfl rfl rfl rfl rfl fun _ H1076 => ?_
        clear H1075
        refine m_skipG 273 [276,273] (fS [276,273] [undef,vF]) H1076 rfl rfl rfl rfl rfl rfl fun _ H1077 => ?_
        clear H1076
        refine wl_batch 101 103 [] [278] [(278,[],vF)] [] H1077 (by decide) (by kernel_rfl) trivial fun _ _ H1079 hb => ?_
        replace hS:=hS.below hb
        clear H1077 hb
        refine m_skipG 278 [279,278] (fS [279,278] [undef,vF]) H1079 rfl rfl rfl rfl rfl rfl fun _ H1080 => ?_
        clear H1079
        refine m_skipG 278 [280,278] (fS [280,278] [undef,vF]) H1080 rfl rfl rfl rfl rfl rfl fun _ H1081 => ?_
        clear H1080
        refine m_skipG 278 [281,278] (fS [281,278] [undef,vF]) H1081 rfl rfl rfl rfl rfl rfl fun _ H1082 => ?_
        clear H1081
        refine wl_batch 106 108 [] [283] [(283,[],vF)] [] H1082 (by decide) (by kernel_rfl) trivial fun _ _ H1084 hb => ?_
        replace hS:=hS.below hb
        clear H1082 hb
        refine m_skipG 283 [284,283] (fS [284,283] [undef,vF]) H1084 rfl rfl rfl rfl rfl rfl fun _ H1085 => ?_
        clear H1084
        refine m_skipG 283 [285,283] (fS [285,283] [undef,vF]) H1085 rfl rfl rfl rfl rfl rfl fun _ H1086 => ?_
        clear H1085
        refine m_skipG 283 [286,283] (fS [286,283] [undef,vF]) H1086 rfl rfl rfl rfl rfl rfl fun _ H1087 => ?_
        clear H1086
        refine wl_batch 111 113 [] [288] [(288,[],vF)] [] H1087 (by decide) (by kernel_rfl) trivial fun _ _ H1089 hb => ?_
        replace hS:=hS.below hb
        clear H1087 hb
        refine m_skipG 288 [289,288] (fS [289,288] [undef,vF]) H1089 rfl rfl rfl rfl rfl rfl fun _ H1090 => ?_
        clear H1089
        refine m_skipG 288 [290,288] (fS [290,288] [undef,vF]) H1090 rfl rfl rfl rfl rfl rfl fun _ H1091 => ?_
        clear H1090
        refine m_skipG 288 [291,288] (fS [291,288] [undef,vF]) H1091 rfl rfl rfl rfl rfl rfl fun _ H1092 => ?_
        clear H1091
        refine wl_batch 116 118 [] [293] [(293,[],vF)] [] H1092 (by decide) (by kernel_rfl) trivial fun _ _ H1094 hb => ?_
        replace hS:=hS.below hb
        clear H1092 hb
        refine m_skipG 293 [294,293] (fS [294,293] [undef,vF]) H1094 rfl rfl rfl rfl rfl rfl fun _ H1095 => ?_
        clear H1094
        refine m_skipG 293 [295,293] (fS [295,293] [undef,vF]) H1095 rfl rfl rfl rfl rfl rfl fun _ H1096 => ?_
        clear H1095
        refine m_skipG 293 [296,293] (fS [296,293] [undef,vF]) H1096 rfl rfl rfl rfl rfl rfl fun _ H1097 => ?_
        clear H1096
        refine wl_batch 121 123 [] [298] [(298,[],vF)] [] H1097 (by decide) (by kernel_rfl) trivial fun _ _ H1099 hb => ?_
        replace hS:=hS.below hb
        clear H1097 hb
        refine m_skipG 298 [299,298] (fS [299,298] [undef,vF]) H1099 rfl rfl rfl rfl rfl rfl fun _ H1100 => ?_
        clear H1099
        refine m_skipG 298 [300,298] (fS [300,298] [undef,vF]) H1100 rfl rfl rfl rfl rfl rfl fun _ H1101 => ?_
        clear H1100
        refine wl_batch 125 127 [] [0] [(0,[],vF)] [] H1101 (by decide) (by kernel_rfl) trivial fun _ _ H1103 hb => ?_
        replace hS:=hS.below hb
        clear H1101 hb
        apply wl_end rfl
        obtain rfl:=someE hm
        exact ⟨FrG.keep (ks:=[0]) H1103 (by kernel_rfl),hS⟩
       replace hm:=bT rfl hm
       refine wl_batchM 23 24 [(vG [vS y246.Name,vL g280 q272,vB y246.Important])] [(10,0),(12,0),(13,0),(16,0),(18,0),(20,0),(22,0),(23,0),(24,0),(26,0),(28,0),(29,0),(30,0),(31,0),(32,0),(198,0),(199,1)] (fS [10,12,13,16,18,20,22,23,24,26,28,29,30,31,32,198,199] [vP b226,vP b287,vP b317,vI y348.2,vI y360.2,vI y372.2,vI y384.2,vL g397 y396.1,vI y396.2,vI y405.2,vI y412.2,vL g420 y419.1,vI y419.2,vL g427 y426.1,vI y426.2,vT,vG [vS y246.Name,vL g280 q272,vB y246.Important]]) [fun wz => (true = true ∧ True → V.atN b251 0 [vS y246.Name,vL g280 q272,vB y246.Important] 0 wz)] H439 (by decide) (by kernel_rfl) ⟨fun hg => (hS.bk 8 rfl).atD rfl,trivial⟩ fun _ _ H441 hb => ?_
       replace hS:=hS.below hb
       clear H439 hb
       have hd:=hS.hand [] [0,1,2,3,4,5,6,7,8,9,10,11] rfl rfl
       refine m_stpG 198 [200,10,12,13,16,18,20,22,23,24,26,28,29,30,31,32,198,199] (fS [10,12,13,16,18,20,22,23,24,26,28,29,30,31,32,198,199] [vP b226,vP b287,vP b317,vI y348.2,vI y360.2,vI y372.2,vI y384.2,vL g397 y396.1,vI y396.2,vI y405.2,vI y412.2,vL g420 y419.1,vI y419.2,vL g427 y426.1,vI y426.2,vT,vG [vS y246.Name,vL g280 q272,vB y246.Important]]) H441 rfl rfl rfl rfl (o_lit (T:=tS) (E:=9) (zv:=vN) [vS [109,97,114,103,105,110,45,116,111,112],vS [49,112,120],vS [109,97,114,103,105,110,45,114,105,103,104,116],vS [50,112,120],vS [109,97,114,103,105,110,45,98,111,116,116,111,109],vS [49,112,120],vS [109,97,114,103,105,110,45,108,101,102,116],vS [50,112,120]] kL3 [gL [],gL [],gL [],gL [],gL [],gL [],gL [],gL []] _ H441 hd rfl (by kernel_rfl) (by kernel_rfl) (by kernel_rfl) (by kernel_rfl) (by kernel_rfl) (by kernel_rfl) (by kernel_rfl) rfl (InnL.cons trivial (InnL.cons trivial (InnL.cons trivial (InnL.cons trivial (InnL.cons trivial (InnL.cons trivial (InnL.cons trivial (InnL.cons trivial InnL.nil))))))))) (fun _ => rfl) fun _ _ v H445 hq => ?_
       clear H441 hd
       obtain ⟨g442,rfl,hq⟩:=hq
       replace hS : SH M X w [eO 9 tS kL3 g442,eO 9 tS y426.1 g427,eO 9 tS y419.1 g420,eO 51 tyValue y396.1 g397,eI tyValue z322 g345,eB b317 [vS y312.Name,vL g345 z322,vB y312.Important],eO 51 tyValue q303 g311,eB b287 [vS y282.Name,vL g311 q303,vB y282.Important],eI tyValue q272 g280,eB b251 [vS y246.Name,vL g280 q272,vB y246.Important],eB b226 [vS y221.Name,vL g241 q238,vB y221.Important],eO 51 tyValue q238 g241,gE0] _:=hS.join [] [0,1,2,3,4,5,6,7,8,9,10,11] rfl rfl hq
       clear hq
       obtain ⟨y446,hy446,hm⟩:=bindE hm
       obtain ⟨y447,hy447,hm⟩:=bindE hm
       obtain ⟨y448,hy448,hm⟩:=bindE hm
       obtain ⟨y449,hy449,hm⟩:=bindE hm
       obtain ⟨x450,hx450,hm⟩:=letE hm
       obtain ⟨x451,hx451,hm⟩:=letE hm
       refine wl_batch 25 40 [(vB y446),(vG [vS y282.Name,vL g311 q303,vB y282.Important]),(vB y447),(vG [vS y221.Name,vL g241 q238,vB y221.Important]),(vB y448),(vG [vS y312.Name,vL g345 z322,vB y312.Important]),(vB y449)] [16,18,20,22,23,24,26,28,29,30,31,32,215] (fS [16,18,20,22,23,24,26,28,29,30,31,32,215] [vI y348.2,vI y360.2,vI y372.2,vI y384.2,vL g397 y396.1,vI y396.2,vI y405.2,vI y412.2,vL g420 y419.1,vI y419.2,vL g427 y426.1,vI y426.2,vB x451]) [fun wz => (true = true ∧ True → RetB Tryz.prog 21 ⟨[vG [vS y246.Name,vL g280 q272,vB y246.Important],vN,vK g442 8]⟩ (vB y446) wz),fun wz => (y446 = true ∧ True → V.atN b287 0 [vS y282.Name,vL g311 q303,vB y282.Important] 0 wz),fun wz => (y446 = true ∧ True → RetB Tryz.prog 23 ⟨[vG [vS y282.Name,vL g311 q303,vB y282.Important],vI 12]⟩ (vB y447) wz),fun wz => ((cond y446 y447 false) = true ∧ True → V.atN b226 0 [vS y221.Name,vL g241 q238,vB y221.Important] 0 wz),fun wz => ((cond y446 y447 false) = true ∧ True → RetB Tryz.prog 23 ⟨[vG [vS y221.Name,vL g241 q238,vB y221.Important],vI 12]⟩ (vB y448) wz),fun wz => ((cond (cond y446 y447 false) y448 false) = true ∧ True → V.atN b317 0 [vS y312.Name,vL g345 z322,vB y312.Important] 0 wz),fun wz => ((cond (cond y446 y447 false) y448 false) = true ∧ True → RetB Tryz.prog 23 ⟨[vG [vS y312.Name,vL g345 z322,vB y312.Important],vI 20]⟩ (vB y449) wz)] H445 (by decide) (by subst hx450 hx451; kernel_rfl) ⟨fun hg => law27_is_ok (g_d__0:=g280) (g_want:=g442) m _ _ _ _ hy446 _ (s0im (s0im (s0im s0nil (hS.im 12 rfl)) (hS.osl 0 rfl)) (hS.im 8 rfl)),fun hg => (hS.bk 7 rfl).atD rfl,fun hg => law27_none_ok (g_d__0:=g311) m _ _ _ (bT (hg.1) hy447) _ (s0im (s0im s0nil (hS.im 12 rfl)) (hS.osl 6 rfl)),fun hg => (hS.bk 10 rfl).atD rfl,fun hg => law27_none_ok (g_d__0:=g241) m _ _ _ (bT (hg.1) hy448) _ (s0im (s0im s0nil (hS.im 12 rfl)) (hS.osl 11 rfl)),fun hg => (hS.bk 5 rfl).atD rfl,fun hg => law27_none_ok (g_d__0:=g345) m _ _ _ (bT (hg.1) hy449) _ (s0im (s0im s0nil (hS.im 12 rfl)) (hS.im 4 rfl)),trivial⟩ fun _ _ H453 hb => ?_
       replace hS:=hS.below hb
       clear H445 hb
       cases x451
       case false =>
        replace hm:=bF rfl hm
        refine m_skipG 215 [216,16,18,20,22,23,24,26,28,29,30,31,32,215] (fS [216,16,18,20,22,23,24,26,28,29,30,31,32,215] [undef,vI y348.2,vI y360.2,vI y372.2,vI y384.2,vL g397 y396.1,vI y396.2,vI y405.2,vI y412.2,vL g420 y419.1,vI y419.2,vL g427 y426.1,vI y426.2,vF]) H453 rfl rfl rfl rfl rfl rfl fun _ H913 => ?_
        clear H453
        refine m_skipG 215 [217,16,18,20,22,23,24,26,28,29,30,31,32,215] (fS [217,16,18,20,22,23,24,26,28,29,30,31,32,215] [undef,vI y348.2,vI y360.2,vI y372.2,vI y384.2,vL g397 y396.1,vI y396.2,vI y405.2,vI y412.2,vL g420 y419.1,vI y419.2,vL g427 y426.1,vI y426.2,vF]) H913 rfl rfl rfl rfl rfl rfl fun _ H914 => ?_
        clear H913
        refine wl_batch 42 44 [] [16,18,20,22,23,24,26,28,29,30,31,32,219] (fS [16,18,20,22,23,24,26,28,29,30,31,32,219] [vI y348.2,vI y360.2,vI y372.2,vI y384.2,vL g397 y396.1,vI y396.2,vI y405.2,vI y412.2,vL g420 y419.1,vI y419.2,vL g427 y426.1,vI y426.2,vF]) [] H914 (by decide) (by kernel_rfl) trivial fun _ _ H916 hb => ?_
        replace hS:=hS.below hb
        clear H914 hb
        refine m_skipG 219 [220,16,18,20,22,23,24,26,28,29,30,31,32,219] (fS [220,16,18,20,22,23,24,26,28,29,30,31,32,219] [undef,vI y348.2,vI y360.2,vI y372.2,vI y384.2,vL g397 y396.1,vI y396.2,vI y405.2,vI y412.2,vL g420 y419.1,vI y419.2,vL g427 y426.1,vI y426.2,vF]) H916 rfl rfl rfl rfl rfl rfl fun _ H917 => ?_
        clear H916
        refine m_skipG 219 [221,16,18,20,22,23,24,26,28,29,30,31,32,219] (fS [221,16,18,20,22,23,24,26,28,29,30,31,32,219] [undef,vI y348.2,vI y360.2,vI y372.2,vI y384.2,vL g397 y396.1,vI y396.2,vI y405.2,vI y412.2,vL g420 y419.1,vI y419.2,vL g427 y426.1,vI y426.2,vF]) H917 rfl rfl rfl rfl rfl rfl fun _ H918 => ?_
        clear H917
        refine wl_batch 46 48 [] [16,18,20,22,23,24,26,28,29,30,31,32,223] (fS [16,18,20,22,23,24,26,28,29,30,31,32,223] [vI y348.2,vI y360.2,vI y372.2,vI y384.2,vL g397 y396.1,vI y396.2,vI y405.2,vI y412.2,vL g420 y419.1,vI y419.2,vL g427 y426.1,vI y426.2,vF]) [] H918 (by decide) (by kernel_rfl) trivial fun _ _ H920 hb => ?_
        replace hS:=hS.below hb
        clear H918 hb
        refine m_skipG 223 [224,16,18,20,22,23,24,26,28,29,30,31,32,223] (fS [224,16,18,20,22,23,24,26,28,29,30,31,32,223] [undef,vI y348.2,vI y360.2,vI y372.2,vI y384.2,vL g397 y396.1,vI y396.2,vI y405.2,vI y412.2,vL g420 y419.1,vI y419.2,vL g427 y426.1,vI y426.2,vF]) H920 rfl rfl rfl rfl rfl rfl fun _ H921 => ?_
        clear H920
        refine m_skipG 223 [225,16,18,20,22,23,24,26,28,29,30,31,32,223] (fS [225,16,18,20,22,23,24,26,28,29,30,31,32,223] [undef,vI y348.2,vI y360.2,vI y372.2,vI y384.2,vL g397 y396.1,vI y396.2,vI y405.2,vI y412.2,vL g420 y419.1,vI y419.2,vL g427 y426.1,vI y426.2,vF]) H921 rfl rfl rfl rfl rfl rfl fun _ H922 => ?_
        clear H921
        refine wl_batch 50 52 [] [16,18,20,22,23,24,26,28,29,30,31,32,227] (fS [16,18,20,22,23,24,26,28,29,30,31,32,227] [vI y348.2,vI y360.2,vI y372.2,vI y384.2,vL g397 y396.1,vI y396.2,vI y405.2,vI y412.2,vL g420 y419.1,vI y419.2,vL g427 y426.1,vI y426.2,vF]) [] H922 (by decide) (by kernel_rfl) trivial fun _ _ H924 hb => ?_
        replace hS:=hS.below hb
        clear H922 hb
        refine m_skipG 227 [228,18,20,22,23,24,26,28,29,30,31,32,227] (fS [228,18,20,22,23,24,26,28,29,30,31,32,227] [undef,vI y360.2,vI y372.2,vI y384.2,vL g397 y396.1,vI y396.2,vI y405.2,vI y412.2,vL g420 y419.1,vI y419.2,vL g427 y426.1,vI y426.2,vF]) H924 rfl rfl rfl rfl rfl rfl fun _ H925 => ?_
        clear H924
        refine m_skipG 227 [229,18,20,22,23,24,26,28,29,30,31,32,227] (fS [229,18,20,22,23,24,26,28,29,30,31,32,227] [undef,vI y360.2,vI y372.2,vI y384.2,vL g397 y396.1,vI y396.2,vI y405.2,vI y412.2,vL g420 y419.1,vI y419.2,vL g427 y426.1,vI y426.2,vF]) H925 rfl rfl rfl rfl rfl rfl fun _ H926 => ?_
        clear H925
        refine wl_batch 54 56 [] [18,20,22,23,24,26,28,29,30,31,32,231] (fS [18,20,22,23,24,26,28,29,30,31,32,231] [vI y360.2,vI y372.2,vI y384.2,vL g397 y396.1,vI y396.2,vI y405.2,vI y412.2,vL g420 y419.1,vI y419.2,vL g427 y426.1,vI y426.2,vF]) [] H926 (by decide) (by kernel_rfl) trivial fun _ _ H928 hb => ?_
        replace hS:=hS.below hb
        clear H926 hb
        refine m_skipG 231 [232,20,22,23,24,26,28,29,30,31,32,231] (fS [232,20,22,23,24,26,28,29,30,31,32,231] [undef,vI y372.2,vI y384.2,vL g397 y396.1,vI y396.2,vI y405.2,vI y412.2,vL g420 y419.1,vI y419.2,vL g427 y426.1,vI y426.2,vF]) H928 rfl rfl rfl rfl rfl rfl fun _ H929 => ?_
        clear H928
        refine m_skipG 231 [233,20,22,23,24,26,28,29,30,31,32,231] (fS [233,20,22,23,24,26,28,29,30,31,32,231] [undef,vI y372.2,vI y384.2,vL g397 y396.1,vI y396.2,vI y405.2,vI y412.2,vL g420 y419.1,vI y419.2,vL g427 y426.1,vI y426.2,vF]) H929 rfl rfl rfl rfl rfl rfl fun _ H930 => ?_
        clear H929
        refine wl_batch 58 60 [] [20,22,23,24,26,28,29,30,31,32,235] (fS [20,22,23,24,26,28,29,30,31,32,235] [vI y372.2,vI y384.2,vL g397 y396.1,vI y396.2,vI y405.2,vI y412.2,vL g420 y419.1,vI y419.2,vL g427 y426.1,vI y426.2,vF]) [] H930 (by decide) (by kernel_rfl) trivial fun _ _ H932 hb => ?_
        replace hS:=hS.below hb
        clear H930 hb
        refine m_skipG 235 [236,22,23,24,26,28,29,30,31,32,235] (fS [236,22,23,24,26,28,29,30,31,32,235] [undef,vI y384.2,vL g397 y396.1,vI y396.2,vI y405.2,vI y412.2,vL g420 y419.1,vI y419.2,vL g427 y426.1,vI y426.2,vF]) H932 rfl rfl rfl rfl rfl rfl fun _ H933 => ?_
        clear H932
        refine m_skipG 235 [237,22,23,24,26,28,29,30,31,32,235] (fS [237,22,23,24,26,28,29,30,31,32,235] [undef,vI y384.2,vL g397 y396.1,vI y396.2,vI y405.2,vI y412.2,vL g420 y419.1,vI y419.2,vL g427 y426.1,vI y426.2,vF]) H933 rfl rfl rfl rfl rfl rfl fun _ H934 => ?_
        clear H933
        refine wl_batch 62 64 [] [22,23,24,26,28,29,30,31,32,239] (fS [22,23,24,26,28,29,30,31,32,239] [vI y384.2,vL g397 y396.1,vI y396.2,vI y405.2,vI y412.2,vL g420 y419.1,vI y419.2,vL g427 y426.1,vI y426.2,vF]) [] H934 (by decide) (by kernel_rfl) trivial fun _ _ H936 hb => ?_
        replace hS:=hS.below hb
        clear H934 hb
        refine m_skipG 239 [240,23,24,26,28,29,30,31,32,239] (fS [240,23,24,26,28,29,30,31,32,239] [undef,vL g397 y396.1,vI y396.2,vI y405.2,vI y412.2,vL g420 y419.1,vI y419.2,vL g427 y426.1,vI y426.2,vF]) H936 rfl rfl rfl rfl rfl rfl fun _ H937 => ?_
        clear H936
        refine m_skipG 239 [241,23,24,26,28,29,30,31,32,239] (fS [241,23,24,26,28,29,30,31,32,239] [undef,vL g397 y396.1,vI y396.2,vI y405.2,vI y412.2,vL g420 y419.1,vI y419.2,vL g427 y426.1,vI y426.2,vF]) H937 rfl rfl rfl rfl rfl rfl fun _ H938 => ?_
        clear H937
        refine wl_batch 66 68 [] [23,24,26,28,29,30,31,32,243] (fS [23,24,26,28,29,30,31,32,243] [vL g397 y396.1,vI y396.2,vI y405.2,vI y412.2,vL g420 y419.1,vI y419.2,vL g427 y426.1,vI y426.2,vF]) [] H938 (by decide) (by kernel_rfl) trivial fun _ _ H940 hb => ?_
        replace hS:=hS.below hb
        clear H938 hb
        refine m_skipG 243 [244,23,26,28,29,30,31,32,243] (fS [244,23,26,28,29,30,31,32,243] [undef,vL g397 y396.1,vI y405.2,vI y412.2,vL g420 y419.1,vI y419.2,vL g427 y426.1,vI y426.2,vF]) H940 rfl rfl rfl rfl rfl rfl fun _ H941 => ?_
        clear H940
        refine m_skipG 243 [245,23,26,28,29,30,31,32,243] (fS [245,23,26,28,29,30,31,32,243] [undef,vL g397 y396.1,vI y405.2,vI y412.2,vL g420 y419.1,vI y419.2,vL g427 y426.1,vI y426.2,vF]) H941 rfl rfl rfl rfl rfl rfl fun _ H942 => ?_
        clear H941
        refine wl_batch 70 72 [] [23,26,28,29,30,31,32,247] (fS [23,26,28,29,30,31,32,247] [vL g397 y396.1,vI y405.2,vI y412.2,vL g420 y419.1,vI y419.2,vL g427 y426.1,vI y426.2,vF]) [] H942 (by decide) (by kernel_rfl) trivial fun _ _ H944 hb => ?_
        replace hS:=hS.below hb
        clear H942 hb
        refine m_skipG 247 [248,26,28,29,30,31,32,247] (fS [248,26,28,29,30,31,32,247] [undef,vI y405.2,vI y412.2,vL g420 y419.1,vI y419.2,vL g427 y426.1,vI y426.2,vF]) H944 rfl rfl rfl rfl rfl rfl fun _ H945 => ?_
        clear H944
        refine m_skipG 247 [249,26,28,29,30,31,32,247,248] (fS [249,26,28,29,30,31,32,247,248] [undef,vI y405.2,vI y412.2,vL g420 y419.1,vI y419.2,vL g427 y426.1,vI y426.2,vF,undef]) H945 rfl rfl rfl rfl rfl rfl fun _ H946 => ?_
        clear H945
        refine m_skipG 247 [250,26,28,29,30,31,32,247] (fS [250,26,28,29,30,31,32,247] [undef,vI y405.2,vI y412.2,vL g420 y419.1,vI y419.2,vL g427 y426.1,vI y426.2,vF]) H946 rfl rfl rfl rfl rfl rfl fun _ H947 => ?_
        clear H946
        refine wl_batch 75 77 [] [26,28,29,30,31,32,252] (fS [26,28,29,30,31,32,252] [vI y405.2,vI y412.2,vL g420 y419.1,vI y419.2,vL g427 y426.1,vI y426.2,vF]) [] H947 (by decide) (by kernel_rfl) trivial fun _ _ H949 hb => ?_
        replace hS:=hS.below hb
        clear H947 hb
        refine m_skipG 252 [253,28,29,30,31,32,252] (fS [253,28,29,30,31,32,252] [undef,vI y412.2,vL g420 y419.1,vI y419.2,vL g427 y426.1,vI y426.2,vF]) H949 rfl rfl rfl rfl rfl rfl fun _ H950 => ?_
        clear H949
        refine m_skipG 252 [254,28,29,30,31,32,252] (fS [254,28,29,30,31,32,252] [undef,vI y412.2,vL g420 y419.1,vI y419.2,vL g427 y426.1,vI y426.2,vF]) H950 rfl rfl rfl rfl rfl rfl fun _ H951 => ?_
        clear H950
        refine wl_batch 79 81 [] [28,29,30,31,32,256] (fS [28,29,30,31,32,256] [vI y412.2,vL g420 y419.1,vI y419.2,vL g427 y426.1,vI y426.2,vF]) [] H951 (by decide) (by kernel_rfl) trivial fun _ _ H953 hb => ?_
        replace hS:=hS.below hb
        clear H951 hb
        refine m_skipG 256 [257,29,30,31,32,256] (fS [257,29,30,31,32,256] [undef,vL g420 y419.1,vI y419.2,vL g427 y426.1,vI y426.2,vF]) H953 rfl rfl rfl rfl rfl rfl fun _ H954 => ?_
        clear H953
        refine m_skipG 256 [258,29,30,31,32,256] (fS [258,29,30,31,32,256] [undef,vL g420 y419.1,vI y419.2,vL g427 y426.1,vI y426.2,vF]) H954 rfl rfl rfl rfl rfl rfl fun _ H955 => ?_
        clear H954
        refine wl_batch 83 85 [] [29,30,31,32,260] (fS [29,30,31,32,260] [vL g420 y419.1,vI y419.2,vL g427 y426.1,vI y426.2,vF]) [] H955 (by decide) (by kernel_rfl) trivial fun _ _ H957 hb => ?_
        replace hS:=hS.below hb
        clear H955 hb
        refine m_skipG 260 [261,29,31,32,260] (fS [261,29,31,32,260] [undef,vL g420 y419.1,vL g427 y426.1,vI y426.2,vF]) H957 rfl rfl rfl rfl rfl rfl fun _ H958 => ?_
        clear H957
        refine m_skipG 260 [262,29,31,32,260] (fS [262,29,31,32,260] [undef,vL g420 y419.1,vL g427 y426.1,vI y426.2,vF]) H958 rfl rfl rfl rfl rfl rfl fun _ H959 => ?_
        clear H958
        refine wl_batch 87 89 [] [29,31,32,264] (fS [29,31,32,264] [vL g420 y419.1,vL g427 y426.1,vI y426.2,vF]) [] H959 (by decide) (by kernel_rfl) trivial fun _ _ H961 hb => ?_
        replace hS:=hS.below hb
        clear H959 hb
        refine m_skipG 264 [265,31,32,264] (fS [265,31,32,264] [undef,vL g427 y426.1,vI y426.2,vF]) H961 rfl rfl rfl rfl rfl rfl fun _ H962 => ?_
        clear H961
        refine m_skipG 264 [266,31,32,264,265] (fS [266,31,32,264,265] [undef,vL g427 y426.1,vI y426.2,vF,undef]) H962 rfl rfl rfl rfl rfl rfl fun _ H963 => ?_
        clear H962
        refine m_skipG 264 [267,31,32,264] (fS [267,31,32,264] [undef,vL g427 y426.1,vI y426.2,vF]) H963 rfl rfl rfl rfl rfl rfl fun _ H964 => ?_
        clear H963
        refine wl_batch 92 94 [] [31,32,269] (fS [31,32,269] [vL g427 y426.1,vI y426.2,vF]) [] H964 (by decide) (by kernel_rfl) trivial fun _ _ H966 hb => ?_
        replace hS:=hS.below hb
        clear H964 hb
        refine m_skipG 269 [270,31,269] (fS [270,31,269] [undef,vL g427 y426.1,vF]) H966 rfl rfl rfl rfl rfl rfl fun _ H967 => ?_
        clear H966
        refine m_skipG 269 [271,31,269] (fS [271,31,269] [undef,vL g427 y426.1,vF]) H967 rfl rfl rfl rfl rfl rfl fun _ H968 => ?_
        clear H967
        refine wl_batch 96 98 [] [31,273] (fS [31,273] [vL g427 y426.1,vF]) [] H968 (by decide) (by kernel_rfl) trivial fun _ _ H970 hb => ?_
        replace hS:=hS.below hb
        clear H968 hb
        refine m_skipG 273 [274,273] (fS [274,273] [undef,vF]) H970 rfl rfl rfl rfl rfl rfl fun _ H971 => ?_
        clear H970
        refine m_skipG 273 [275,273,274] (fS [275,273,274] [undef,vF,undef]) H971 rfl rfl rfl rfl rfl rfl fun _ H972 => ?_
        clear H971
        refine m_skipG 273 [276,273] (fS [276,273] [undef,vF]) H972 rfl rfl rfl rfl rfl rfl fun _ H973 => ?_
        clear H972
        refine wl_batch 101 103 [] [278] [(278,[],vF)] [] H973 (by decide) (by kernel_rfl) trivial fun _ _ H975 hb => ?_
        replace hS:=hS.below hb
        clear H973 hb
        refine m_skipG 278 [279,278] (fS [279,278] [undef,vF]) H975 rfl rfl rfl rfl rfl rfl fun _ H976 => ?_
        clear H975
        refine m_skipG 278 [280,278] (fS [280,278] [undef,vF]) H976 rfl rfl rfl rfl rfl rfl fun _ H977 => ?_
        clear H976
        refine m_skipG 278 [281,278] (fS [281,278] [undef,vF]) H977 rfl rfl rfl rfl rfl rfl fun _ H978 => ?_
        clear H977
        refine wl_batch 106 108 [] [283] [(283,[],vF)] [] H978 (by decide) (by kernel_rfl) trivial fun _ _ H980 hb => ?_
        replace hS:=hS.below hb
        clear H978 hb
        refine m_skipG 283 [284,283] (fS [284,283] [undef,vF]) H980 rfl rfl rfl rfl rfl rfl fun _ H981 => ?_
        clear H980
        refine m_skipG 283 [285,283] (fS [285,283] [undef,vF]) H981 rfl rfl rfl rfl rfl rfl fun _ H982 => ?_
        clear H981
        refine m_skipG 283 [286,283] (fS [286,283] [undef,vF]) H982 rfl rfl rfl rfl rfl rfl fun _ H983 => ?_
        clear H982
        refine wl_batch 111 113 [] [288] [(288,[],vF)] [] H983 (by decide) (by kernel_rfl) trivial fun _ _ H985 hb => ?_
        replace hS:=hS.below hb
        clear H983 hb
        refine m_skipG 288 [289,288] (fS [289,288] [undef,vF]) H985 rfl rfl rfl rfl rfl rfl fun _ H986 => ?_
        clear H985
        refine m_skipG 288 [290,288] (fS [290,288] [undef,vF]) H986 rfl rfl rfl rfl rfl rfl fun _ H987 => ?_
        clear H986
        refine m_skipG 288 [291,288] (fS [291,288] [undef,vF]) H987 rfl rfl rfl rfl rfl rfl fun _ H988 => ?_
        clear H987
        refine wl_batch 116 118 [] [293] [(293,[],vF)] [] H988 (by decide) (by kernel_rfl) trivial fun _ _ H990 hb => ?_
        replace hS:=hS.below hb
        clear H988 hb
        refine m_skipG 293 [294,293] (fS [294,293] [undef,vF]) H990 rfl rfl rfl rfl rfl rfl fun _ H991 => ?_
        clear H990
        refine m_skipG 293 [295,293] (fS [295,293] [undef,vF]) H991 rfl rfl rfl rfl rfl rfl fun _ H992 => ?_
        clear H991
        refine m_skipG 293 [296,293] (fS [296,293] [undef,vF]) H992 rfl rfl rfl rfl rfl rfl fun _ H993 => ?_
        clear H992
        refine wl_batch 121 123 [] [298] [(298,[],vF)] [] H993 (by decide) (by kernel_rfl) trivial fun _ _ H995 hb => ?_
        replace hS:=hS.below hb
        clear H993 hb
        refine m_skipG 298 [299,298] (fS [299,298] [undef,vF]) H995 rfl rfl rfl rfl rfl rfl fun _ H996 => ?_
        clear H995
        refine m_skipG 298 [300,298] (fS [300,298] [undef,vF]) H996 rfl rfl rfl rfl rfl rfl fun _ H997 => ?_
        clear H996
        refine wl_batch 125 127 [] [0] [(0,[],vF)] [] H997 (by decide) (by kernel_rfl) trivial fun _ _ H999 hb => ?_
        replace hS:=hS.below hb
        clear H997 hb
        apply wl_end rfl
        replace hS : SH M X w [eO 9 tS y426.1 g427,eO 9 tS y419.1 g420,eO 51 tyValue y396.1 g397,eI tyValue z322 g345,eB b317 [vS y312.Name,vL g345 z322,vB y312.Important],eO 51 tyValue q303 g311,eB b287 [vS y282.Name,vL g311 q303,vB y282.Important],eI tyValue q272 g280,eB b251 [vS y246.Name,vL g280 q272,vB y246.Important],eB b226 [vS y221.Name,vL g241 q238,vB y221.Important],eO 51 tyValue q238 g241,gE0] _:=hS.sel [1,2,3,4,5,6,7,8,9,10,11,12] rfl
        obtain rfl:=someE hm
        exact ⟨FrG.keep (ks:=[0]) H999 (by kernel_rfl),hS⟩
       replace hm:=bT rfl hm
       obtain ⟨y454,hy454,hm⟩:=bindE hm
       have hd:=hS.hand [] [0,1,2,3,4,5,6,7,8,9,10,11,12] rfl rfl
       refine m_stpG 215 [216,16,18,20,22,23,24,26,28,29,30,31,32,215] (fS [16,18,20,22,23,24,26,28,29,30,31,32,215] [vI y348.2,vI y360.2,vI y372.2,vI y384.2,vL g397 y396.1,vI y396.2,vI y405.2,vI y412.2,vL g420 y419.1,vI y419.2,vL g427 y426.1,vI y426.2,vT]) H453 rfl rfl rfl rfl (o_callx H453 rfl rfl (law27_decl_ok m _ _ _ hy454 _ _ hd)) (fun _ => rfl) fun _ _ v H458 hq => ?_
       clear H453 hd
       obtain ⟨g455,rfl,hq⟩:=hq
       replace hS : SH M X w [eO 51 tyValue y454.Value g455,eO 9 tS kL3 g442,eO 9 tS y426.1 g427,eO 9 tS y419.1 g420,eO 51 tyValue y396.1 g397,eI tyValue z322 g345,eB b317 [vS y312.Name,vL g345 z322,vB y312.Important],eO 51 tyValue q303 g311,eB b287 [vS y282.Name,vL g311 q303,vB y282.Important],eI tyValue q272 g280,eB b251 [vS y246.Name,vL g280 q272,vB y246.Important],eB b226 [vS y221.Name,vL g241 q238,vB y221.Important],eO 51 tyValue q238 g241,gE0] _:=hS.join [] [0,1,2,3,4,5,6,7,8,9,10,11,12] rfl rfl hq
       clear hq
       obtain ⟨y459,hy459,hm⟩:=bindE hm
       obtain ⟨x460,hx460,hm⟩:=letE hm
       refine wl_batch 41 44 [(vB y459)] [16,18,20,22,23,24,26,28,29,30,31,32,219] (fS [16,18,20,22,23,24,26,28,29,30,31,32,219] [vI y348.2,vI y360.2,vI y372.2,vI y384.2,vL g397 y396.1,vI y396.2,vI y405.2,vI y412.2,vL g420 y419.1,vI y419.2,vL g427 y426.1,vI y426.2,vB x460]) [fun wz => (true = true ∧ True → RetB Tryz.prog 23 ⟨[vG [vS y454.Name,vL g455 y454.Value,vB y454.Important],vI 6]⟩ (vB y459) wz)] H458 (by decide) (by subst hx460; kernel_rfl) ⟨fun hg => law27_none_ok (g_d__0:=g455) m _ _ _ hy459 _ (s0im (s0im s0nil (hS.im 13 rfl)) (hS.osl 0 rfl)),trivial⟩ fun _ _ H462 hb => ?_
       replace hS:=hS.below hb
       clear H458 hb
       cases x460
       case false =>
        replace hm:=bF rfl hm
        refine m_skipG 219 [220,16,18,20,22,23,24,26,28,29,30,31,32,219] (fS [220,16,18,20,22,23,24,26,28,29,30,31,32,219] [undef,vI y348.2,vI y360.2,vI y372.2,vI y384.2,vL g397 y396.1,vI y396.2,vI y405.2,vI y412.2,vL g420 y419.1,vI y419.2,vL g427 y426.1,vI y426.2,vF]) H462 rfl rfl rfl rfl rfl rfl fun _ H830 => ?_
        clear H462
        refine m_skipG 219 [221,16,18,20,22,23,24,26,28,29,30,31,32,219] (fS [221,16,18,20,22,23,24,26,28,29,30,31,32,219] [undef,vI y348.2,vI y360.2,vI y372.2,vI y384.2,vL g397 y396.1,vI y396.2,vI y405.2,vI y412.2,vL g420 y419.1,vI y419.2,vL g427 y426.1,vI y426.2,vF]) H830 rfl rfl rfl rfl rfl rfl fun _ H831 => ?_
        clear H830
        refine wl_batch 46 48 [] [16,18,20,22,23,24,26,28,29,30,31,32,223] (fS [16,18,20,22,23,24,26,28,29,30,31,32,223] [vI y348.2,vI y360.2,vI y372.2,vI y384.2,vL g397 y396.1,vI y396.2,vI y405.2,vI y412.2,vL g420 y419.1,vI y419.2,vL g427 y426.1,vI y426.2,vF]) [] H831 (by decide) (by kernel_rfl) trivial fun _ _ H833 hb => ?_
        replace hS:=hS.below hb
        clear H831 hb
        refine m_skipG 223 [224,16,18,20,22,23,24,26,28,29,30,31,32,223] (fS [224,16,18,20,22,23,24,26,28,29,30,31,32,223] [undef,vI y348.2,vI y360.2,vI y372.2,vI y384.2,vL g397 y396.1,vI y396.2,vI y405.2,vI y412.2,vL g420 y419.1,vI y419.2,vL g427 y426.1,vI y426.2,vF]) H833 rfl rfl rfl rfl rfl rfl fun _ H834 => ?_
        clear H833
        refine m_skipG 223 [225,16,18,20,22,23,24,26,28,29,30,31,32,223] (fS [225,16,18,20,22,23,24,26,28,29,30,31,32,223] [undef,vI y348.2,vI y360.2,vI y372.2,vI y384.2,vL g397 y396.1,vI y396.2,vI y405.2,vI y412.2,vL g420 y419.1,vI y419.2,vL g427 y426.1,vI y426.2,vF]) H834 rfl rfl rfl rfl rfl rfl fun _ H835 => ?_
        clear H834
        refine wl_batch 50 52 [] [16,18,20,22,23,24,26,28,29,30,31,32,227] (fS [16,18,20,22,23,24,26,28,29,30,31,32,227] [vI y348.2,vI y360.2,vI y372.2,vI y384.2,vL g397 y396.1,vI y396.2,vI y405.2,vI y412.2,vL g420 y419.1,vI y419.2,vL g427 y426.1,vI y426.2,vF]) [] H835 (by decide) (by kernel_rfl) trivial fun _ _ H837 hb => ?_
        replace hS:=hS.below hb
        clear H835 hb
        refine m_skipG 227 [228,18,20,22,23,24,26,28,29,30,31,32,227] (fS [228,18,20,22,23,24,26,28,29,30,31,32,227] [undef,vI y360.2,vI y372.2,vI y384.2,vL g397 y396.1,vI y396.2,vI y405.2,vI y412.2,vL g420 y419.1,vI y419.2,vL g427 y426.1,vI y426.2,vF]) H837 rfl rfl rfl rfl rfl rfl fun _ H838 => ?_
        clear H837
        refine m_skipG 227 [229,18,20,22,23,24,26,28,29,30,31,32,227] (fS [229,18,20,22,23,24,26,28,29,30,31,32,227] [undef,vI y360.2,vI y372.2,vI y384.2,vL g397 y396.1,vI y396.2,vI y405.2,vI y412.2,vL g420 y419.1,vI y419.2,vL g427 y426.1,vI y426.2,vF]) H838 rfl rfl rfl rfl rfl rfl fun _ H839 => ?_
        clear H838
        refine wl_batch 54 56 [] [18,20,22,23,24,26,28,29,30,31,32,231] (fS [18,20,22,23,24,26,28,29,30,31,32,231] [vI y360.2,vI y372.2,vI y384.2,vL g397 y396.1,vI y396.2,vI y405.2,vI y412.2,vL g420 y419.1,vI y419.2,vL g427 y426.1,vI y426.2,vF]) [] H839 (by decide) (by kernel_rfl) trivial fun _ _ H841 hb => ?_
        replace hS:=hS.below hb
        clear H839 hb
        refine m_skipG 231 [232,20,22,23,24,26,28,29,30,31,32,231] (fS [232,20,22,23,24,26,28,29,30,31,32,231] [undef,vI y372.2,vI y384.2,vL g397 y396.1,vI y396.2,vI y405.2,vI y412.2,vL g420 y419.1,vI y419.2,vL g427 y426.1,vI y426.2,vF]) H841 rfl rfl rfl rfl rfl rfl fun _ H842 => ?_
        clear H841
        refine m_skipG 231 [233,20,22,23,24,26,28,29,30,31,32,231] (fS [233,20,22,23,24,26,28,29,30,31,32,231] [undef,vI y372.2,vI y384.2,vL g397 y396.1,vI y396.2,vI y405.2,vI y412.2,vL g420 y419.1,vI y419.2,vL g427 y426.1,vI y426.2,vF]) H842 rfl rfl rfl rfl rfl rfl fun _ H843 => ?_
        clear H842
        refine wl_batch 58 60 [] [20,22,23,24,26,28,29,30,31,32,235] (fS [20,22,23,24,26,28,29,30,31,32,235] [vI y372.2,vI y384.2,vL g397 y396.1,vI y396.2,vI y405.2,vI y412.2,vL g420 y419.1,vI y419.2,vL g427 y426.1,vI y426.2,vF]) [] H843 (by decide) (by kernel_rfl) trivial fun _ _ H845 hb => ?_
        replace hS:=hS.below hb
        clear H843 hb
        refine m_skipG 235 [236,22,23,24,26,28,29,30,31,32,235] (fS [236,22,23,24,26,28,29,30,31,32,235] [undef,vI y384.2,vL g397 y396.1,vI y396.2,vI y405.2,vI y412.2,vL g420 y419.1,vI y419.2,vL g427 y426.1,vI y426.2,vF]) H845 rfl rfl rfl rfl rfl rfl fun _ H846 => ?_
        clear H845
        refine m_skipG 235 [237,22,23,24,26,28,29,30,31,32,235] (fS [237,22,23,24,26,28,29,30,31,32,235] [undef,vI y384.2,vL g397 y396.1,vI y396.2,vI y405.2,vI y412.2,vL g420 y419.1,vI y419.2,vL g427 y426.1,vI y426.2,vF]) H846 rfl rfl rfl rfl rfl rfl fun _ H847 => ?_
        clear H846
        refine wl_batch 62 64 [] [22,23,24,26,28,29,30,31,32,239] (fS [22,23,24,26,28,29,30,31,32,239] [vI y384.2,vL g397 y396.1,vI y396.2,vI y405.2,vI y412.2,vL g420 y419.1,vI y419.2,vL g427 y426.1,vI y426.2,vF]) [] H847 (by decide) (by kernel_rfl) trivial fun _ _ H849 hb => ?_
        replace hS:=hS.below hb
        clear H847 hb
        refine m_skipG 239 [240,23,24,26,28,29,30,31,32,239] (fS [240,23,24,26,28,29,30,31,32,239] [undef,vL g397 y396.1,vI y396.2,vI y405.2,vI y412.2,vL g420 y419.1,vI y419.2,vL g427 y426.1,vI y426.2,vF]) H849 rfl rfl rfl rfl rfl rfl fun _ H850 => ?_
        clear H849
        refine m_skipG 239 [241,23,24,26,28,29,30,31,32,239] (fS [241,23,24,26,28,29,30,31,32,239] [undef,vL g397 y396.1,vI y396.2,vI y405.2,vI y412.2,vL g420 y419.1,vI y419.2,vL g427 y426.1,vI y426.2,vF]) H850 rfl rfl rfl rfl rfl rfl fun _ H851 => ?_
        clear H850
        refine wl_batch 66 68 [] [23,24,26,28,29,30,31,32,243] (fS [23,24,26,28,29,30,31,32,243] [vL g397 y396.1,vI y396.2,vI y405.2,vI y412.2,vL g420 y419.1,vI y419.2,vL g427 y426.1,vI y426.2,vF]) [] H851 (by decide) (by kernel_rfl) trivial fun _ _ H853 hb => ?_
        replace hS:=hS.below hb
        clear H851 hb
        refine m_skipG 243 [244,23,26,28,29,30,31,32,243] (fS [244,23,26,28,29,30,31,32,243] [undef,vL g397 y396.1,vI y405.2,vI y412.2,vL g420 y419.1,vI y419.2,vL g427 y426.1,vI y426.2,vF]) H853 rfl rfl rfl rfl rfl rfl fun _ H854 => ?_
        clear H853
        refine m_skipG 243 [245,23,26,28,29,30,31,32,243] (fS [245,23,26,28,29,30,31,32,243] [undef,vL g397 y396.1,vI y405.2,vI y412.2,vL g420 y419.1,vI y419.2,vL g427 y426.1,vI y426.2,vF]) H854 rfl rfl rfl rfl rfl rfl fun _ H855 => ?_
        clear H854
        refine wl_batch 70 72 [] [23,26,28,29,30,31,32,247] (fS [23,26,28,29,30,31,32,247] [vL g397 y396.1,vI y405.2,vI y412.2,vL g420 y419.1,vI y419.2,vL g427 y426.1,vI y426.2,vF]) [] H855 (by decide) (by kernel_rfl) trivial fun _ _ H857 hb => ?_
        replace hS:=hS.below hb
        clear H855 hb
        refine m_skipG 247 [248,26,28,29,30,31,32,247] (fS [248,26,28,29,30,31,32,247] [undef,vI y405.2,vI y412.2,vL g420 y419.1,vI y419.2,vL g427 y426.1,vI y426.2,vF]) H857 rfl rfl rfl rfl rfl rfl fun _ H858 => ?_
        clear H857
        refine m_skipG 247 [249,26,28,29,30,31,32,247,248] (fS [249,26,28,29,30,31,32,247,248] [undef,vI y405.2,vI y412.2,vL g420 y419.1,vI y419.2,vL g427 y426.1,vI y426.2,vF,undef]) H858 rfl rfl rfl rfl rfl rfl fun _ H859 => ?_
        clear H858
        refine m_skipG 247 [250,26,28,29,30,31,32,247] (fS [250,26,28,29,30,31,32,247] [undef,vI y405.2,vI y412.2,vL g420 y419.1,vI y419.2,vL g427 y426.1,vI y426.2,vF]) H859 rfl rfl rfl rfl rfl rfl fun _ H860 => ?_
        clear H859
        refine wl_batch 75 77 [] [26,28,29,30,31,32,252] (fS [26,28,29,30,31,32,252] [vI y405.2,vI y412.2,vL g420 y419.1,vI y419.2,vL g427 y426.1,vI y426.2,vF]) [] H860 (by decide) (by kernel_rfl) trivial fun _ _ H862 hb => ?_
        replace hS:=hS.below hb
        clear H860 hb
        refine m_skipG 252 [253,28,29,30,31,32,252] (fS [253,28,29,30,31,32,252] [undef,vI y412.2,vL g420 y419.1,vI y419.2,vL g427 y426.1,vI y426.2,vF]) H862 rfl rfl rfl rfl rfl rfl fun _ H863 => ?_
        clear H862
        refine m_skipG 252 [254,28,29,30,31,32,252] (fS [254,28,29,30,31,32,252] [undef,vI y412.2,vL g420 y419.1,vI y419.2,vL g427 y426.1,vI y426.2,vF]) H863 rfl rfl rfl rfl rfl rfl fun _ H864 => ?_
        clear H863
        refine wl_batch 79 81 [] [28,29,30,31,32,256] (fS [28,29,30,31,32,256] [vI y412.2,vL g420 y419.1,vI y419.2,vL g427 y426.1,vI y426.2,vF]) [] H864 (by decide) (by kernel_rfl) trivial fun _ _ H866 hb => ?_
        replace hS:=hS.below hb
        clear H864 hb
        refine m_skipG 256 [257,29,30,31,32,256] (fS [257,29,30,31,32,256] [undef,vL g420 y419.1,vI y419.2,vL g427 y426.1,vI y426.2,vF]) H866 rfl rfl rfl rfl rfl rfl fun _ H867 => ?_
        clear H866
        refine m_skipG 256 [258,29,30,31,32,256] (fS [258,29,30,31,32,256] [undef,vL g420 y419.1,vI y419.2,vL g427 y426.1,vI y426.2,vF]) H867 rfl rfl rfl rfl rfl rfl fun _ H868 => ?_
        clear H867
        refine wl_batch 83 85 [] [29,30,31,32,260] (fS [29,30,31,32,260] [vL g420 y419.1,vI y419.2,vL g427 y426.1,vI y426.2,vF]) [] H868 (by decide) (by kernel_rfl) trivial fun _ _ H870 hb => ?_
        replace hS:=hS.below hb
        clear H868 hb
        refine m_skipG 260 [261,29,31,32,260] (fS [261,29,31,32,260] [undef,vL g420 y419.1,vL g427 y426.1,vI y426.2,vF]) H870 rfl rfl rfl rfl rfl rfl fun _ H871 => ?_
        clear H870
        refine m_skipG 260 [262,29,31,32,260] (fS [262,29,31,32,260] [undef,vL g420 y419.1,vL g427 y426.1,vI y426.2,vF]) H871 rfl rfl rfl rfl rfl rfl fun _ H872 => ?_
        clear H871
        refine wl_batch 87 89 [] [29,31,32,264] (fS [29,31,32,264] [vL g420 y419.1,vL g427 y426.1,vI y426.2,vF]) [] H872 (by decide) (by kernel_rfl) trivial fun _ _ H874 hb => ?_
        replace hS:=hS.below hb
        clear H872 hb
        refine m_skipG 264 [265,31,32,264] (fS [265,31,32,264] [undef,vL g427 y426.1,vI y426.2,vF]) H874 rfl rfl rfl rfl rfl rfl fun _ H875 => ?_
        clear H874
        refine m_skipG 264 [266,31,32,264,265] (fS [266,31,32,264,265] [undef,vL g427 y426.1,vI y426.2,vF,undef]) H875 rfl rfl rfl rfl rfl rfl fun _ H876 => ?_
        clear H875
        refine m_skipG 264 [267,31,32,264] (fS [267,31,32,264] [undef,vL g427 y426.1,vI y426.2,vF]) H876 rfl rfl rfl rfl rfl rfl fun _ H877 => ?_
        clear H876
        refine wl_batch 92 94 [] [31,32,269] (fS [31,32,269] [vL g427 y426.1,vI y426.2,vF]) [] H877 (by decide) (by kernel_rfl) trivial fun _ _ H879 hb => ?_
        replace hS:=hS.below hb
        clear H877 hb
        refine m_skipG 269 [270,31,269] (fS [270,31,269] [undef,vL g427 y426.1,vF]) H879 rfl rfl rfl rfl rfl rfl fun _ H880 => ?_
        clear H879
        refine m_skipG 269 [271,31,269] (fS [271,31,269] [undef,vL g427 y426.1,vF]) H880 rfl rfl rfl rfl rfl rfl fun _ H881 => ?_
        clear H880
        refine wl_batch 96 98 [] [31,273] (fS [31,273] [vL g427 y426.1,vF]) [] H881 (by decide) (by kernel_rfl) trivial fun _ _ H883 hb => ?_
        replace hS:=hS.below hb
        clear H881 hb
        refine m_skipG 273 [274,273] (fS [274,273] [undef,vF]) H883 rfl rfl rfl rfl rfl rfl fun _ H884 => ?_
        clear H883
        refine m_skipG 273 [275,273,274] (fS [275,273,274] [undef,vF,undef]) H884 rfl rfl rfl rfl rfl rfl fun _ H885 => ?_
        clear H884
        refine m_skipG 273 [276,273] (fS [276,273] [undef,vF]) H885 rfl rfl rfl rfl rfl rfl fun _ H886 => ?_
        clear H885
        refine wl_batch 101 103 [] [278] [(278,[],vF)] [] H886 (by decide) (by kernel_rfl) trivial fun _ _ H888 hb => ?_
        replace hS:=hS.below hb
        clear H886 hb
        refine m_skipG 278 [279,278] (fS [279,278] [undef,vF]) H888 rfl rfl rfl rfl rfl rfl fun _ H889 => ?_
        clear H888
        refine m_skipG 278 [280,278] (fS [280,278] [undef,vF]) H889 rfl rfl rfl rfl rfl rfl fun _ H890 => ?_
        clear H889
        refine m_skipG 278 [281,278] (fS [281,278] [undef,vF]) H890 rfl rfl rfl rfl rfl rfl fun _ H891 => ?_
        clear H890
        refine wl_batch 106 108 [] [283] [(283,[],vF)] [] H891 (by decide) (by kernel_rfl) trivial fun _ _ H893 hb => ?_
        replace hS:=hS.below hb
        clear H891 hb
        refine m_skipG 283 [284,283] (fS [284,283] [undef,vF]) H893 rfl rfl rfl rfl rfl rfl fun _ H894 => ?_
        clear H893
        refine m_skipG 283 [285,283] (fS [285,283] [undef,vF]) H894 rfl rfl rfl rfl rfl rfl fun _ H895 => ?_
        clear H894
        refine m_skipG 283 [286,283] (fS [286,283] [undef,vF]) H895 rfl rfl rfl rfl rfl rfl fun _ H896 => ?_
        clear H895
        refine wl_batch 111 113 [] [288] [(288,[],vF)] [] H896 (by decide) (by kernel_rfl) trivial fun _ _ H898 hb => ?_
        replace hS:=hS.below hb
        clear H896 hb
        refine m_skipG 288 [289,288] (fS [289,288] [undef,vF]) H898 rfl rfl rfl rfl rfl rfl fun _ H899 => ?_
        clear H898
        refine m_skipG 288 [290,288] (fS [290,288] [undef,vF]) H899 rfl rfl rfl rfl rfl rfl fun _ H900 => ?_
        clear H899
        refine m_skipG 288 [291,288] (fS [291,288] [undef,vF]) H900 rfl rfl rfl rfl rfl rfl fun _ H901 => ?_
        clear H900
        refine wl_batch 116 118 [] [293] [(293,[],vF)] [] H901 (by decide) (by kernel_rfl) trivial fun _ _ H903 hb => ?_
        replace hS:=hS.below hb
        clear H901 hb
        refine m_skipG 293 [294,293] (fS [294,293] [undef,vF]) H903 rfl rfl rfl rfl rfl rfl fun _ H904 => ?_
        clear H903
        refine m_skipG 293 [295,293] (fS [295,293] [undef,vF]) H904 rfl rfl rfl rfl rfl rfl fun _ H905 => ?_
        clear H904
        refine m_skipG 293 [296,293] (fS [296,293] [undef,vF]) H905 rfl rfl rfl rfl rfl rfl fun _ H906 => ?_
        clear H905
        refine wl_batch 121 123 [] [298] [(298,[],vF)] [] H906 (by decide) (by kernel_rfl) trivial fun _ _ H908 hb => ?_
        replace hS:=hS.below hb
        clear H906 hb
        refine m_skipG 298 [299,298] (fS [299,298] [undef,vF]) H908 rfl rfl rfl rfl rfl rfl fun _ H909 => ?_
        clear H908
        refine m_skipG 298 [300,298] (fS [300,298] [undef,vF]) H909 rfl rfl rfl rfl rfl rfl fun _ H910 => ?_
        clear H909
        refine wl_batch 125 127 [] [0] [(0,[],vF)] [] H910 (by decide) (by kernel_rfl) trivial fun _ _ H912 hb => ?_
        replace hS:=hS.below hb
        clear H910 hb
        apply wl_end rfl
        replace hS : SH M X w [eO 9 tS y426.1 g427,eO 9 tS y419.1 g420,eO 51 tyValue y396.1 g397,eI tyValue z322 g345,eB b317 [vS y312.Name,vL g345 z322,vB y312.Important],eO 51 tyValue q303 g311,eB b287 [vS y282.Name,vL g311 q303,vB y282.Important],eI tyValue q272 g280,eB b251 [vS y246.Name,vL g280 q272,vB y246.Important],eB b226 [vS y221.Name,vL g241 q238,vB y221.Important],eO 51 tyValue q238 g241,gE0] _:=hS.sel [2,3,4,5,6,7,8,9,10,11,12,13] rfl
        obtain rfl:=someE hm
        exact ⟨FrG.keep (ks:=[0]) H912 (by kernel_rfl),hS⟩
       replace hm:=bT rfl hm
       obtain ⟨y463,hy463,hm⟩:=bindE hm
       have hd:=hS.hand [] [0,1,2,3,4,5,6,7,8,9,10,11,12,13] rfl rfl
       refine m_stpG 219 [220,16,18,20,22,23,24,26,28,29,30,31,32,219] (fS [16,18,20,22,23,24,26,28,29,30,31,32,219] [vI y348.2,vI y360.2,vI y372.2,vI y384.2,vL g397 y396.1,vI y396.2,vI y405.2,vI y412.2,vL g420 y419.1,vI y419.2,vL g427 y426.1,vI y426.2,vT]) H462 rfl rfl rfl rfl (o_callx H462 rfl rfl (law27_decl_ok m _ _ _ hy463 _ _ hd)) (fun _ => rfl) fun _ _ v H467 hq => ?_
       clear H462 hd
       obtain ⟨g464,rfl,hq⟩:=hq
       replace hS : SH M X w [eO 51 tyValue y463.Value g464,eO 51 tyValue y454.Value g455,eO 9 tS kL3 g442,eO 9 tS y426.1 g427,eO 9 tS y419.1 g420,eO 51 tyValue y396.1 g397,eI tyValue z322 g345,eB b317 [vS y312.Name,vL g345 z322,vB y312.Important],eO 51 tyValue q303 g311,eB b287 [vS y282.Name,vL g311 q303,vB y282.Important],eI tyValue q272 g280,eB b251 [vS y246.Name,vL g280 q272,vB y246.Important],eB b226 [vS y221.Name,vL g241 q238,vB y221.Important],eO 51 tyValue q238 g241,gE0] _:=hS.join [] [0,1,2,3,4,5,6,7,8,9,10,11,12,13] rfl rfl hq
       clear hq
       obtain ⟨y468,hy468,hm⟩:=bindE hm
       obtain ⟨x469,hx469,hm⟩:=letE hm
       refine wl_batch 45 48 [(vB y468)] [16,18,20,22,23,24,26,28,29,30,31,32,223] (fS [16,18,20,22,23,24,26,28,29,30,31,32,223] [vI y348.2,vI y360.2,vI y372.2,vI y384.2,vL g397 y396.1,vI y396.2,vI y405.2,vI y412.2,vL g420 y419.1,vI y419.2,vL g427 y426.1,vI y426.2,vB x469]) [fun wz => (true = true ∧ True → RetB Tryz.prog 23 ⟨[vG [vS y463.Name,vL g464 y463.Value,vB y463.Important],vI 6]⟩ (vB y468) wz)] H467 (by decide) (by subst hx469; kernel_rfl) ⟨fun hg => law27_none_ok (g_d__0:=g464) m _ _ _ hy468 _ (s0im (s0im s0nil (hS.im 14 rfl)) (hS.osl 0 rfl)),trivial⟩ fun _ _ H471 hb => ?_
       replace hS:=hS.below hb
       clear H467 hb
       cases x469
       case false =>
        replace hm:=bF rfl hm
        refine m_skipG 223 [224,16,18,20,22,23,24,26,28,29,30,31,32,223] (fS [224,16,18,20,22,23,24,26,28,29,30,31,32,223] [undef,vI y348.2,vI y360.2,vI y372.2,vI y384.2,vL g397 y396.1,vI y396.2,vI y405.2,vI y412.2,vL g420 y419.1,vI y419.2,vL g427 y426.1,vI y426.2,vF]) H471 rfl rfl rfl rfl rfl rfl fun _ H751 => ?_
        clear H471
        refine m_skipG 223 [225,16,18,20,22,23,24,26,28,29,30,31,32,223] (fS [225,16,18,20,22,23,24,26,28,29,30,31,32,223] [undef,vI y348.2,vI y360.2,vI y372.2,vI y384.2,vL g397 y396.1,vI y396.2,vI y405.2,vI y412.2,vL g420 y419.1,vI y419.2,vL g427 y426.1,vI y426.2,vF]) H751 rfl rfl rfl rfl rfl rfl fun _ H752 => ?_
        clear H751
        refine wl_batch 50 52 [] [16,18,20,22,23,24,26,28,29,30,31,32,227] (fS [16,18,20,22,23,24,26,28,29,30,31,32,227] [vI y348.2,vI y360.2,vI y372.2,vI y384.2,vL g397 y396.1,vI y396.2,vI y405.2,vI y412.2,vL g420 y419.1,vI y419.2,vL g427 y426.1,vI y426.2,vF]) [] H752 (by decide) (by kernel_rfl) trivial fun _ _ H754 hb => ?_
        replace hS:=hS.below hb
        clear H752 hb
        refine m_skipG 227 [228,18,20,22,23,24,26,28,29,30,31,32,227] (fS [228,18,20,22,23,24,26,28,29,30,31,32,227] [undef,vI y360.2,vI y372.2,vI y384.2,vL g397 y396.1,vI y396.2,vI y405.2,vI y412.2,vL g420 y419.1,vI y419.2,vL g427 y426.1,vI y426.2,vF]) H754 rfl rfl rfl rfl rfl rfl fun _ H755 => ?_
        clear H754
        refine m_skipG 227 [229,18,20,22,23,24,26,28,29,30,31,32,227] (fS [229,18,20,22,23,24,26,28,29,30,31,32,227] [undef,vI y360.2,vI y372.2,vI y384.2,vL g397 y396.1,vI y396.2,vI y405.2,vI y412.2,vL g420 y419.1,vI y419.2,vL g427 y426.1,vI y426.2,vF]) H755 rfl rfl rfl rfl rfl rfl fun _ H756 => ?_
        clear H755
        refine wl_batch 54 56 [] [18,20,22,23,24,26,28,29,30,31,32,231] (fS [18,20,22,23,24,26,28,29,30,31,32,231] [vI y360.2,vI y372.2,vI y384.2,vL g397 y396.1,vI y396.2,vI y405.2,vI y412.2,vL g420 y419.1,vI y419.2,vL g427 y426.1,vI y426.2,vF]) [] H756 (by decide) (by kernel_rfl) trivial fun _ _ H758 hb => ?_
        replace hS:=hS.below hb
        clear H756 hb
        refine m_skipG 231 [232,20,22,23,24,26,28,29,30,31,32,231] (fS [232,20,22,23,24,26,28,29,30,31,32,231] [undef,vI y372.2,vI y384.2,vL g397 y396.1,vI y396.2,vI y405.2,vI y412.2,vL g420 y419.1,vI y419.2,vL g427 y426.1,vI y426.2,vF]) H758 rfl rfl rfl rfl rfl rfl fun _ H759 => ?_
        clear H758
        refine m_skipG 231 [233,20,22,23,24,26,28,29,30,31,32,231] (fS [233,20,22,23,24,26,28,29,30,31,32,231] [undef,vI y372.2,vI y384.2,vL g397 y396.1,vI y396.2,vI y405.2,vI y412.2,vL g420 y419.1,vI y419.2,vL g427 y426.1,vI y426.2,vF]) H759 rfl rfl rfl rfl rfl rfl fun _ H760 => ?_
        clear H759
        refine wl_batch 58 60 [] [20,22,23,24,26,28,29,30,31,32,235] (fS [20,22,23,24,26,28,29,30,31,32,235] [vI y372.2,vI y384.2,vL g397 y396.1,vI y396.2,vI y405.2,vI y412.2,vL g420 y419.1,vI y419.2,vL g427 y426.1,vI y426.2,vF]) [] H760 (by decide) (by kernel_rfl) trivial fun _ _ H762 hb => ?_
        replace hS:=hS.below hb
        clear H760 hb
        refine m_skipG 235 [236,22,23,24,26,28,29,30,31,32,235] (fS [236,22,23,24,26,28,29,30,31,32,235] [undef,vI y384.2,vL g397 y396.1,vI y396.2,vI y405.2,vI y412.2,vL g420 y419.1,vI y419.2,vL g427 y426.1,vI y426.2,vF]) H762 rfl rfl rfl rfl rfl rfl fun _ H763 => ?_
        clear H762
        refine m_skipG 235 [237,22,23,24,26,28,29,30,31,32,235] (fS [237,22,23,24,26,28,29,30,31,32,235] [undef,vI y384.2,vL g397 y396.1,vI y396.2,vI y405.2,vI y412.2,vL g420 y419.1,vI y419.2,vL g427 y426.1,vI y426.2,vF]) H763 rfl rfl rfl rfl rfl rfl fun _ H764 => ?_
        clear H763
        refine wl_batch 62 64 [] [22,23,24,26,28,29,30,31,32,239] (fS [22,23,24,26,28,29,30,31,32,239] [vI y384.2,vL g397 y396.1,vI y396.2,vI y405.2,vI y412.2,vL g420 y419.1,vI y419.2,vL g427 y426.1,vI y426.2,vF]) [] H764 (by decide) (by kernel_rfl) trivial fun _ _ H766 hb => ?_
        replace hS:=hS.below hb
        clear H764 hb
        refine m_skipG 239 [240,23,24,26,28,29,30,31,32,239] (fS [240,23,24,26,28,29,30,31,32,239] [undef,vL g397 y396.1,vI y396.2,vI y405.2,vI y412.2,vL g420 y419.1,vI y419.2,vL g427 y426.1,vI y426.2,vF]) H766 rfl rfl rfl rfl rfl rfl fun _ H767 => ?_
        clear H766
        refine m_skipG 239 [241,23,24,26,28,29,30,31,32,239] (fS [241,23,24,26,28,29,30,31,32,239] [undef,vL g397 y396.1,vI y396.2,vI y405.2,vI y412.2,vL g420 y419.1,vI y419.2,vL g427 y426.1,vI y426.2,vF]) H767 rfl rfl rfl rfl rfl rfl fun _ H768 => ?_
        clear H767
        refine wl_batch 66 68 [] [23,24,26,28,29,30,31,32,243] (fS [23,24,26,28,29,30,31,32,243] [vL g397 y396.1,vI y396.2,vI y405.2,vI y412.2,vL g420 y419.1,vI y419.2,vL g427 y426.1,vI y426.2,vF]) [] H768 (by decide) (by kernel_rfl) trivial fun _ _ H770 hb => ?_
        replace hS:=hS.below hb
        clear H768 hb
        refine m_skipG 243 [244,23,26,28,29,30,31,32,243] (fS [244,23,26,28,29,30,31,32,243] [undef,vL g397 y396.1,vI y405.2,vI y412.2,vL g420 y419.1,vI y419.2,vL g427 y426.1,vI y426.2,vF]) H770 rfl rfl rfl rfl rfl rfl fun _ H771 => ?_
        clear H770
        refine m_skipG 243 [245,23,26,28,29,30,31,32,243] (fS [245,23,26,28,29,30,31,32,243] [undef,vL g397 y396.1,vI y405.2,vI y412.2,vL g420 y419.1,vI y419.2,vL g427 y426.1,vI y426.2,vF]) H771 rfl rfl rfl rfl rfl rfl fun _ H772 => ?_
        clear H771
        refine wl_batch 70 72 [] [23,26,28,29,30,31,32,247] (fS [23,26,28,29,30,31,32,247] [vL g397 y396.1,vI y405.2,vI y412.2,vL g420 y419.1,vI y419.2,vL g427 y426.1,vI y426.2,vF]) [] H772 (by decide) (by kernel_rfl) trivial fun _ _ H774 hb => ?_
        replace hS:=hS.below hb
        clear H772 hb
        refine m_skipG 247 [248,26,28,29,30,31,32,247] (fS [248,26,28,29,30,31,32,247] [undef,vI y405.2,vI y412.2,vL g420 y419.1,vI y419.2,vL g427 y426.1,vI y426.2,vF]) H774 rfl rfl rfl rfl rfl rfl fun _ H775 => ?_
        clear H774
        refine m_skipG 247 [249,26,28,29,30,31,32,247,248] (fS [249,26,28,29,30,31,32,247,248] [undef,vI y405.2,vI y412.2,vL g420 y419.1,vI y419.2,vL g427 y426.1,vI y426.2,vF,undef]) H775 rfl rfl rfl rfl rfl rfl fun _ H776 => ?_
        clear H775
        refine m_skipG 247 [250,26,28,29,30,31,32,247] (fS [250,26,28,29,30,31,32,247] [undef,vI y405.2,vI y412.2,vL g420 y419.1,vI y419.2,vL g427 y426.1,vI y426.2,vF]) H776 rfl rfl rfl rfl rfl rfl fun _ H777 => ?_
        clear H776
        refine wl_batch 75 77 [] [26,28,29,30,31,32,252] (fS [26,28,29,30,31,32,252] [vI y405.2,vI y412.2,vL g420 y419.1,vI y419.2,vL g427 y426.1,vI y426.2,vF]) [] H777 (by decide) (by kernel_rfl) trivial fun _ _ H779 hb => ?_
        replace hS:=hS.below hb
        clear H777 hb
        refine m_skipG 252 [253,28,29,30,31,32,252] (fS [253,28,29,30,31,32,252] [undef,vI y412.2,vL g420 y419.1,vI y419.2,vL g427 y426.1,vI y426.2,vF]) H779 rfl rfl rfl rfl rfl rfl fun _ H780 => ?_
        clear H779
        refine m_skipG 252 [254,28,29,30,31,32,252] (fS [254,28,29,30,31,32,252] [undef,vI y412.2,vL g420 y419.1,vI y419.2,vL g427 y426.1,vI y426.2,vF]) H780 rfl rfl rfl rfl rfl rfl fun _ H781 => ?_
        clear H780
        refine wl_batch 79 81 [] [28,29,30,31,32,256] (fS [28,29,30,31,32,256] [vI y412.2,vL g420 y419.1,vI y419.2,vL g427 y426.1,vI y426.2,vF]) [] H781 (by decide) (by kernel_rfl) trivial fun _ _ H783 hb => ?_
        replace hS:=hS.below hb
        clear H781 hb
        refine m_skipG 256 [257,29,30,31,32,256] (fS [257,29,30,31,32,256] [undef,vL g420 y419.1,vI y419.2,vL g427 y426.1,vI y426.2,vF]) H783 rfl rfl rfl rfl rfl rfl fun _ H784 => ?_
        clear H783
        refine m_skipG 256 [258,29,30,31,32,256] (fS [258,29,30,31,32,256] [undef,vL g420 y419.1,vI y419.2,vL g427 y426.1,vI y426.2,vF]) H784 rfl rfl rfl rfl rfl rfl fun _ H785 => ?_
        clear H784
        refine wl_batch 83 85 [] [29,30,31,32,260] (fS [29,30,31,32,260] [vL g420 y419.1,vI y419.2,vL g427 y426.1,vI y426.2,vF]) [] H785 (by decide) (by kernel_rfl) trivial fun _ _ H787 hb => ?_
        replace hS:=hS.below hb
        clear H785 hb
        refine m_skipG 260 [261,29,31,32,260] (fS [261,29,31,32,260] [undef,vL g420 y419.1,vL g427 y426.1,vI y426.2,vF]) H787 rfl rfl rfl rfl rfl rfl fun _ H788 => ?_
        clear H787
        refine m_skipG 260 [262,29,31,32,260] (fS [262,29,31,32,260] [undef,vL g420 y419.1,vL g427 y426.1,vI y426.2,vF]) H788 rfl rfl rfl rfl rfl rfl fun _ H789 => ?_
        clear H788
        refine wl_batch 87 89 [] [29,31,32,264] (fS [29,31,32,264] [vL g420 y419.1,vL g427 y426.1,vI y426.2,vF]) [] H789 (by decide) (by kernel_rfl) trivial fun _ _ H791 hb => ?_
        replace hS:=hS.below hb
        clear H789 hb
        refine m_skipG 264 [265,31,32,264] (fS [265,31,32,264] [undef,vL g427 y426.1,vI y426.2,vF]) H791 rfl rfl rfl rfl rfl rfl fun _ H792 => ?_
        clear H791
        refine m_skipG 264 [266,31,32,264,265] (fS [266,31,32,264,265] [undef,vL g427 y426.1,vI y426.2,vF,undef]) H792 rfl rfl rfl rfl rfl rfl fun _ H793 => ?_
        clear H792
        refine m_skipG 264 [267,31,32,264] (fS [267,31,32,264] [undef,vL g427 y426.1,vI y426.2,vF]) H793 rfl rfl rfl rfl rfl rfl fun _ H794 => ?_
        clear H793
        refine wl_batch 92 94 [] [31,32,269] (fS [31,32,269] [vL g427 y426.1,vI y426.2,vF]) [] H794 (by decide) (by kernel_rfl) trivial fun _ _ H796 hb => ?_
        replace hS:=hS.below hb
        clear H794 hb
        refine m_skipG 269 [270,31,269] (fS [270,31,269] [undef,vL g427 y426.1,vF]) H796 rfl rfl rfl rfl rfl rfl fun _ H797 => ?_
        clear H796
        refine m_skipG 269 [271,31,269] (fS [271,31,269] [undef,vL g427 y426.1,vF]) H797 rfl rfl rfl rfl rfl rfl fun _ H798 => ?_
        clear H797
        refine wl_batch 96 98 [] [31,273] (fS [31,273] [vL g427 y426.1,vF]) [] H798 (by decide) (by kernel_rfl) trivial fun _ _ H800 hb => ?_
        replace hS:=hS.below hb
        clear H798 hb
        refine m_skipG 273 [274,273] (fS [274,273] [undef,vF]) H800 rfl rfl rfl rfl rfl rfl fun _ H801 => ?_
        clear H800
        refine m_skipG 273 [275,273,274] (fS [275,273,274] [undef,vF,undef]) H801 rfl rfl rfl rfl rfl rfl fun _ H802 => ?_
        clear H801
        refine m_skipG 273 [276,273] (fS [276,273] [undef,vF]) H802 rfl rfl rfl rfl rfl rfl fun _ H803 => ?_
        clear H802
        refine wl_batch 101 103 [] [278] [(278,[],vF)] [] H803 (by decide) (by kernel_rfl) trivial fun _ _ H805 hb => ?_
        replace hS:=hS.below hb
        clear H803 hb
        refine m_skipG 278 [279,278] (fS [279,278] [undef,vF]) H805 rfl rfl rfl rfl rfl rfl fun _ H806 => ?_
        clear H805
        refine m_skipG 278 [280,278] (fS [280,278] [undef,vF]) H806 rfl rfl rfl rfl rfl rfl fun _ H807 => ?_
        clear H806
        refine m_skipG 278 [281,278] (fS [281,278] [undef,vF]) H807 rfl rfl rfl rfl rfl rfl fun _ H808 => ?_
        clear H807
        refine wl_batch 106 108 [] [283] [(283,[],vF)] [] H808 (by decide) (by kernel_rfl) trivial fun _ _ H810 hb => ?_
        replace hS:=hS.below hb
        clear H808 hb
        refine m_skipG 283 [284,283] (fS [284,283] [undef,vF]) H810 rfl rfl rfl rfl rfl rfl fun _ H811 => ?_
        clear H810
        refine m_skipG 283 [285,283] (fS [285,283] [undef,vF]) H811 rfl rfl rfl rfl rfl rfl fun _ H812 => ?_
        clear H811
        refine m_skipG 283 [286,283] (fS [286,283] [undef,vF]) H812 rfl rfl rfl rfl rfl rfl fun _ H813 => ?_
        clear H812
        refine wl_batch 111 113 [] [288] [(288,[],vF)] [] H813 (by decide) (by kernel_rfl) trivial fun _ _ H815 hb => ?_
        replace hS:=hS.below hb
        clear H813 hb
        refine m_skipG 288 [289,288] (fS [289,288] [undef,vF]) H815 rfl rfl rfl rfl rfl rfl fun _ H816 => ?_
        clear H815
        refine m_skipG 288 [290,288] (fS [290,288] [undef,vF]) H816 rfl rfl rfl rfl rfl rfl fun _ H817 => ?_
        clear H816
        refine m_skipG 288 [291,288] (fS [291,288] [undef,vF]) H817 rfl rfl rfl rfl rfl rfl fun _ H818 => ?_
        clear H817
        refine wl_batch 116 118 [] [293] [(293,[],vF)] [] H818 (by decide) (by kernel_rfl) trivial fun _ _ H820 hb => ?_
        replace hS:=hS.below hb
        clear H818 hb
        refine m_skipG 293 [294,293] (fS [294,293] [undef,vF]) H820 rfl rfl rfl rfl rfl rfl fun _ H821 => ?_
        clear H820
        refine m_skipG 293 [295,293] (fS [295,293] [undef,vF]) H821 rfl rfl rfl rfl rfl rfl fun _ H822 => ?_
        clear H821
        refine m_skipG 293 [296,293] (fS [296,293] [undef,vF]) H822 rfl rfl rfl rfl rfl rfl fun _ H823 => ?_
        clear H822
        refine wl_batch 121 123 [] [298] [(298,[],vF)] [] H823 (by decide) (by kernel_rfl) trivial fun _ _ H825 hb => ?_
        replace hS:=hS.below hb
        clear H823 hb
        refine m_skipG 298 [299,298] (fS [299,298] [undef,vF]) H825 rfl rfl rfl rfl rfl rfl fun _ H826 => ?_
        clear H825
        refine m_skipG 298 [300,298] (fS [300,298] [undef,vF]) H826 rfl rfl rfl rfl rfl rfl fun _ H827 => ?_
        clear H826
        refine wl_batch 125 127 [] [0] [(0,[],vF)] [] H827 (by decide) (by kernel_rfl) trivial fun _ _ H829 hb => ?_
        replace hS:=hS.below hb
        clear H827 hb
        apply wl_end rfl
        replace hS : SH M X w [eO 9 tS y426.1 g427,eO 9 tS y419.1 g420,eO 51 tyValue y396.1 g397,eI tyValue z322 g345,eB b317 [vS y312.Name,vL g345 z322,vB y312.Important],eO 51 tyValue q303 g311,eB b287 [vS y282.Name,vL g311 q303,vB y282.Important],eI tyValue q272 g280,eB b251 [vS y246.Name,vL g280 q272,vB y246.Important],eB b226 [vS y221.Name,vL g241 q238,vB y221.Important],eO 51 tyValue q238 g241,gE0] _:=hS.sel [3,4,5,6,7,8,9,10,11,12,13,14] rfl
        obtain rfl:=someE hm
        exact ⟨FrG.keep (ks:=[0]) H829 (by kernel_rfl),hS⟩
       replace hm:=bT rfl hm
       obtain ⟨y472,hy472,hm⟩:=bindE hm
       have hd:=hS.hand [] [0,1,2,3,4,5,6,7,8,9,10,11,12,13,14] rfl rfl
       refine m_stpG 223 [224,16,18,20,22,23,24,26,28,29,30,31,32,223] (fS [16,18,20,22,23,24,26,28,29,30,31,32,223] [vI y348.2,vI y360.2,vI y372.2,vI y384.2,vL g397 y396.1,vI y396.2,vI y405.2,vI y412.2,vL g420 y419.1,vI y419.2,vL g427 y426.1,vI y426.2,vT]) H471 rfl rfl rfl rfl (o_callx H471 rfl rfl (law27_decl_ok m _ _ _ hy472 _ _ hd)) (fun _ => rfl) fun _ _ v H476 hq => ?_
       clear H471 hd
       obtain ⟨g473,rfl,hq⟩:=hq
       replace hS : SH M X w [eO 51 tyValue y472.Value g473,eO 51 tyValue y463.Value g464,eO 51 tyValue y454.Value g455,eO 9 tS kL3 g442,eO 9 tS y426.1 g427,eO 9 tS y419.1 g420,eO 51 tyValue y396.1 g397,eI tyValue z322 g345,eB b317 [vS y312.Name,vL g345 z322,vB y312.Important],eO 51 tyValue q303 g311,eB b287 [vS y282.Name,vL g311 q303,vB y282.Important],eI tyValue q272 g280,eB b251 [vS y246.Name,vL g280 q272,vB y246.Important],eB b226 [vS y221.Name,vL g241 q238,vB y221.Important],eO 51 tyValue q238 g241,gE0] _:=hS.join [] [0,1,2,3,4,5,6,7,8,9,10,11,12,13,14] rfl rfl hq
       clear hq
       obtain ⟨y477,hy477,hm⟩:=bindE hm
       obtain ⟨x478,hx478,hm⟩:=letE hm
       obtain ⟨x479,hx479,hm⟩:=letE hm
       obtain ⟨x480,hx480,hm⟩:=letE hm
       refine wl_batch 49 72 [(vB y477)] [23,26,28,29,30,31,32,247] (fS [23,26,28,29,30,31,32,247] [vL g397 y396.1,vI y405.2,vI y412.2,vL g420 y419.1,vI y419.2,vL g427 y426.1,vI y426.2,vB x480]) [fun wz => (true = true ∧ True → RetB Tryz.prog 23 ⟨[vG [vS y472.Name,vL g473 y472.Value,vB y472.Important],vI 12]⟩ (vB y477) wz)] H476 (by decide) (by subst hx478 hx479 hx480; kernel_rfl) ⟨fun hg => law27_none_ok (g_d__0:=g473) m _ _ _ hy477 _ (s0im (s0im s0nil (hS.im 15 rfl)) (hS.osl 0 rfl)),trivial⟩ fun _ _ H482 hb => ?_
       replace hS:=hS.below hb
       clear H476 hb
       cases x480
       case false =>
        replace hm:=bF rfl hm
        refine m_skipG 247 [248,26,28,29,30,31,32,247] (fS [248,26,28,29,30,31,32,247] [undef,vI y405.2,vI y412.2,vL g420 y419.1,vI y419.2,vL g427 y426.1,vI y426.2,vF]) H482 rfl rfl rfl rfl rfl rfl fun _ H696 => ?_
        clear H482
        refine m_skipG 247 [249,26,28,29,30,31,32,247,248] (fS [249,26,28,29,30,31,32,247,248] [undef,vI y405.2,vI y412.2,vL g420 y419.1,vI y419.2,vL g427 y426.1,vI y426.2,vF,undef]) H696 rfl rfl rfl rfl rfl rfl fun _ H697 => ?_
        clear H696
        refine m_skipG 247 [250,26,28,29,30,31,32,247] (fS [250,26,28,29,30,31,32,247] [undef,vI y405.2,vI y412.2,vL g420 y419.1,vI y419.2,vL g427 y426.1,vI y426.2,vF]) H697 rfl rfl rfl rfl rfl rfl fun _ H698 => ?_
        clear H697
        refine wl_batch 75 77 [] [26,28,29,30,31,32,252] (fS [26,28,29,30,31,32,252] [vI y405.2,vI y412.2,vL g420 y419.1,vI y419.2,vL g427 y426.1,vI y426.2,vF]) [] H698 (by decide) (by kernel_rfl) trivial fun _ _ H700 hb => ?_
        replace hS:=hS.below hb
        clear H698 hb
        refine m_skipG 252 [253,28,29,30,31,32,252] (fS [253,28,29,30,31,32,252] [undef,vI y412.2,vL g420 y419.1,vI y419.2,vL g427 y426.1,vI y426.2,vF]) H700 rfl rfl rfl rfl rfl rfl fun _ H701 => ?_
        clear H700
        refine m_skipG 252 [254,28,29,30,31,32,252] (fS [254,28,29,30,31,32,252] [undef,vI y412.2,vL g420 y419.1,vI y419.2,vL g427 y426.1,vI y426.2,vF]) H701 rfl rfl rfl rfl rfl rfl fun _ H702 => ?_
        clear H701
        refine wl_batch 79 81 [] [28,29,30,31,32,256] (fS [28,29,30,31,32,256] [vI y412.2,vL g420 y419.1,vI y419.2,vL g427 y426.1,vI y426.2,vF]) [] H702 (by decide) (by kernel_rfl) trivial fun _ _ H704 hb => ?_
        replace hS:=hS.below hb
        clear H702 hb
        refine m_skipG 256 [257,29,30,31,32,256] (fS [257,29,30,31,32,256] [undef,vL g420 y419.1,vI y419.2,vL g427 y426.1,vI y426.2,vF]) H704 rfl rfl rfl rfl rfl rfl fun _ H705 => ?_
        clear H704
        refine m_skipG 256 [258,29,30,31,32,256] (fS [258,29,30,31,32,256] [undef,vL g420 y419.1,vI y419.2,vL g427 y426.1,vI y426.2,vF]) H705 rfl rfl rfl rfl rfl rfl fun _ H706 => ?_
        clear H705
        refine wl_batch 83 85 [] [29,30,31,32,260] (fS [29,30,31,32,260] [vL g420 y419.1,vI y419.2,vL g427 y426.1,vI y426.2,vF]) [] H706 (by decide) (by kernel_rfl) trivial fun _ _ H708 hb => ?_
        replace hS:=hS.below hb
        clear H706 hb
        refine m_skipG 260 [261,29,31,32,260] (fS [261,29,31,32,260] [undef,vL g420 y419.1,vL g427 y426.1,vI y426.2,vF]) H708 rfl rfl rfl rfl rfl rfl fun _ H709 => ?_
        clear H708
        refine m_skipG 260 [262,29,31,32,260] (fS [262,29,31,32,260] [undef,vL g420 y419.1,vL g427 y426.1,vI y426.2,vF]) H709 rfl rfl rfl rfl rfl rfl fun _ H710 => ?_
        clear H709
        refine wl_batch 87 89 [] [29,31,32,264] (fS [29,31,32,264] [vL g420 y419.1,vL g427 y426.1,vI y426.2,vF]) [] H710 (by decide) (by kernel_rfl) trivial fun _ _ H712 hb => ?_
        replace hS:=hS.below hb
        clear H710 hb
        refine m_skipG 264 [265,31,32,264] (fS [265,31,32,264] [undef,vL g427 y426.1,vI y426.2,vF]) H712 rfl rfl rfl rfl rfl rfl fun _ H713 => ?_
        clear H712
        refine m_skipG 264 [266,31,32,264,265] (fS [266,31,32,264,265] [undef,vL g427 y426.1,vI y426.2,vF,undef]) H713 rfl rfl rfl rfl rfl rfl fun _ H714 => ?_
        clear H713
        refine m_skipG 264 [267,31,32,264] (fS [267,31,32,264] [undef,vL g427 y426.1,vI y426.2,vF]) H714 rfl rfl rfl rfl rfl rfl fun _ H715 => ?_
        clear H714
        refine wl_batch 92 94 [] [31,32,269] (fS [31,32,269] [vL g427 y426.1,vI y426.2,vF]) [] H715 (by decide) (by kernel_rfl) trivial fun _ _ H717 hb => ?_
        replace hS:=hS.below hb
        clear H715 hb
        refine m_skipG 269 [270,31,269] (fS [270,31,269] [undef,vL g427 y426.1,vF]) H717 rfl rfl rfl rfl rfl rfl fun _ H718 => ?_
        clear H717
        refine m_skipG 269 [271,31,269] (fS [271,31,269] [undef,vL g427 y426.1,vF]) H718 rfl rfl rfl rfl rfl rfl fun _ H719 => ?_
        clear H718
        refine wl_batch 96 98 [] [31,273] (fS [31,273] [vL g427 y426.1,vF]) [] H719 (by decide) (by kernel_rfl) trivial fun _ _ H721 hb => ?_
        replace hS:=hS.below hb
        clear H719 hb
        refine m_skipG 273 [274,273] (fS [274,273] [undef,vF]) H721 rfl rfl rfl rfl rfl rfl fun _ H722 => ?_
        clear H721
        refine m_skipG 273 [275,273,274] (fS [275,273,274] [undef,vF,undef]) H722 rfl rfl rfl rfl rfl rfl fun _ H723 => ?_
        clear H722
        refine m_skipG 273 [276,273] (fS [276,273] [undef,vF]) H723 rfl rfl rfl rfl rfl rfl fun _ H724 => ?_
        clear H723
        refine wl_batch 101 103 [] [278] [(278,[],vF)] [] H724 (by decide) (by kernel_rfl) trivial fun _ _ H726 hb => ?_
        replace hS:=hS.below hb
        clear H724 hb
        refine m_skipG 278 [279,278] (fS [279,278] [undef,vF]) H726 rfl rfl rfl rfl rfl rfl fun _ H727 => ?_
        clear H726
        refine m_skipG 278 [280,278] (fS [280,278] [undef,vF]) H727 rfl rfl rfl rfl rfl rfl fun _ H728 => ?_
        clear H727
        refine m_skipG 278 [281,278] (fS [281,278] [undef,vF]) H728 rfl rfl rfl rfl rfl rfl fun _ H729 => ?_
        clear H728
        refine wl_batch 106 108 [] [283] [(283,[],vF)] [] H729 (by decide) (by kernel_rfl) trivial fun _ _ H731 hb => ?_
        replace hS:=hS.below hb
        clear H729 hb
        refine m_skipG 283 [284,283] (fS [284,283] [undef,vF]) H731 rfl rfl rfl rfl rfl rfl fun _ H732 => ?_
        clear H731
        refine m_skipG 283 [285,283] (fS [285,283] [undef,vF]) H732 rfl rfl rfl rfl rfl rfl fun _ H733 => ?_
        clear H732
        refine m_skipG 283 [286,283] (fS [286,283] [undef,vF]) H733 rfl rfl rfl rfl rfl rfl fun _ H734 => ?_
        clear H733
        refine wl_batch 111 113 [] [288] [(288,[],vF)] [] H734 (by decide) (by kernel_rfl) trivial fun _ _ H736 hb => ?_
        replace hS:=hS.below hb
        clear H734 hb
        refine m_skipG 288 [289,288] (fS [289,288] [undef,vF]) H736 rfl rfl rfl rfl rfl rfl fun _ H737 => ?_
        clear H736
        refine m_skipG 288 [290,288] (fS [290,288] [undef,vF]) H737 rfl rfl rfl rfl rfl rfl fun _ H738 => ?_
        clear H737
        refine m_skipG 288 [291,288] (fS [291,288] [undef,vF]) H738 rfl rfl rfl rfl rfl rfl fun _ H739 => ?_
        clear H738
        refine wl_batch 116 118 [] [293] [(293,[],vF)] [] H739 (by decide) (by kernel_rfl) trivial fun _ _ H741 hb => ?_
        replace hS:=hS.below hb
        clear H739 hb
        refine m_skipG 293 [294,293] (fS [294,293] [undef,vF]) H741 rfl rfl rfl rfl rfl rfl fun _ H742 => ?_
        clear H741
        refine m_skipG 293 [295,293] (fS [295,293] [undef,vF]) H742 rfl rfl rfl rfl rfl rfl fun _ H743 => ?_
        clear H742
        refine m_skipG 293 [296,293] (fS [296,293] [undef,vF]) H743 rfl rfl rfl rfl rfl rfl fun _ H744 => ?_
        clear H743
        refine wl_batch 121 123 [] [298] [(298,[],vF)] [] H744 (by decide) (by kernel_rfl) trivial fun _ _ H746 hb => ?_
        replace hS:=hS.below hb
        clear H744 hb
        refine m_skipG 298 [299,298] (fS [299,298] [undef,vF]) H746 rfl rfl rfl rfl rfl rfl fun _ H747 => ?_
        clear H746
        refine m_skipG 298 [300,298] (fS [300,298] [undef,vF]) H747 rfl rfl rfl rfl rfl rfl fun _ H748 => ?_
        clear H747
        refine wl_batch 125 127 [] [0] [(0,[],vF)] [] H748 (by decide) (by kernel_rfl) trivial fun _ _ H750 hb => ?_
        replace hS:=hS.below hb
        clear H748 hb
        apply wl_end rfl
        replace hS : SH M X w [eO 9 tS y426.1 g427,eO 9 tS y419.1 g420,eO 51 tyValue y396.1 g397,eI tyValue z322 g345,eB b317 [vS y312.Name,vL g345 z322,vB y312.Important],eO 51 tyValue q303 g311,eB b287 [vS y282.Name,vL g311 q303,vB y282.Important],eI tyValue q272 g280,eB b251 [vS y246.Name,vL g280 q272,vB y246.Important],eB b226 [vS y221.Name,vL g241 q238,vB y221.Important],eO 51 tyValue q238 g241,gE0] _:=hS.sel [4,5,6,7,8,9,10,11,12,13,14,15] rfl
        obtain rfl:=someE hm
        exact ⟨FrG.keep (ks:=[0]) H750 (by kernel_rfl),hS⟩
       replace hm:=bT rfl hm
       refine wl_batchM 72 73 [] [(26,0),(28,0),(29,0),(30,0),(31,0),(32,0),(247,0),(248,1)] (fS [26,28,29,30,31,32,247,248] [vI y405.2,vI y412.2,vL g420 y419.1,vI y419.2,vL g427 y426.1,vI y426.2,vT,vL g397 y396.1]) [] H482 (by decide) (by kernel_rfl) trivial fun _ _ H484 hb => ?_
       replace hS:=hS.below hb
       clear H482 hb
       obtain ⟨y485,hy485,hm⟩:=bindE hm
       have hd:=hS.hand [] [0,1,2,3,4,5,6,7,8,9,10,11,12,13,14,15] rfl rfl
       refine m_stpG 247 [249,26,28,29,30,31,32,247,248] (fS [26,28,29,30,31,32,247,248] [vI y405.2,vI y412.2,vL g420 y419.1,vI y419.2,vL g427 y426.1,vI y426.2,vT,vL g397 y396.1]) H484 rfl rfl rfl rfl (o_callx H484 rfl rfl (r04_Of_ok m _ _ hy485 _ _ hd)) (fun _ => rfl) fun _ _ v H489 hq => ?_
       clear H484 hd
       obtain ⟨g486,rfl,hq⟩:=hq
       replace hS : SH M X w [eO 51 tyValue y485 g486,eO 51 tyValue y472.Value g473,eO 51 tyValue y463.Value g464,eO 51 tyValue y454.Value g455,eO 9 tS kL3 g442,eO 9 tS y426.1 g427,eO 9 tS y419.1 g420,eO 51 tyValue y396.1 g397,eI tyValue z322 g345,eB b317 [vS y312.Name,vL g345 z322,vB y312.Important],eO 51 tyValue q303 g311,eB b287 [vS y282.Name,vL g311 q303,vB y282.Important],eI tyValue q272 g280,eB b251 [vS y246.Name,vL g280 q272,vB y246.Important],eB b226 [vS y221.Name,vL g241 q238,vB y221.Important],eO 51 tyValue q238 g241,gE0] _:=hS.join [] [0,1,2,3,4,5,6,7,8,9,10,11,12,13,14,15] rfl rfl hq
       clear hq
       obtain ⟨y490,hy490,hm⟩:=bindE hm
       obtain ⟨x491,hx491,hm⟩:=letE hm
       obtain ⟨x492,hx492,hm⟩:=letE hm
       refine wl_batch 74 89 [(vB y490)] [29,31,32,264] (fS [29,31,32,264] [vL g420 y419.1,vL g427 y426.1,vI y426.2,vB x492]) [fun wz => (true = true ∧ True → RetB Tryz.prog 14 ⟨[vL g397 y396.1,vL g486 y485]⟩ (vB y490) wz)] H489 (by decide) (by subst hx491 hx492; kernel_rfl) ⟨fun hg => r04_Same_ok (g_a_:=g397) (g_b_:=g486) m _ _ _ hy490 _ (s0im (s0im s0nil (hS.osl 0 rfl)) (hS.osl 7 rfl)),trivial⟩ fun _ _ H494 hb => ?_
       replace hS:=hS.below hb
       clear H489 hb
       cases x492
       case false =>
        replace hm:=bF rfl hm
        refine m_skipG 264 [265,31,32,264] (fS [265,31,32,264] [undef,vL g427 y426.1,vI y426.2,vF]) H494 rfl rfl rfl rfl rfl rfl fun _ H658 => ?_
        clear H494
        refine m_skipG 264 [266,31,32,264,265] (fS [266,31,32,264,265] [undef,vL g427 y426.1,vI y426.2,vF,undef]) H658 rfl rfl rfl rfl rfl rfl fun _ H659 => ?_
        clear H658
        refine m_skipG 264 [267,31,32,264] (fS [267,31,32,264] [undef,vL g427 y426.1,vI y426.2,vF]) H659 rfl rfl rfl rfl rfl rfl fun _ H660 => ?_
        clear H659
        refine wl_batch 92 94 [] [31,32,269] (fS [31,32,269] [vL g427 y426.1,vI y426.2,vF]) [] H660 (by decide) (by kernel_rfl) trivial fun _ _ H662 hb => ?_
        replace hS:=hS.below hb
        clear H660 hb
        refine m_skipG 269 [270,31,269] (fS [270,31,269] [undef,vL g427 y426.1,vF]) H662 rfl rfl rfl rfl rfl rfl fun _ H663 => ?_
        clear H662
        refine m_skipG 269 [271,31,269] (fS [271,31,269] [undef,vL g427 y426.1,vF]) H663 rfl rfl rfl rfl rfl rfl fun _ H664 => ?_
        clear H663
        refine wl_batch 96 98 [] [31,273] (fS [31,273] [vL g427 y426.1,vF]) [] H664 (by decide) (by kernel_rfl) trivial fun _ _ H666 hb => ?_
        replace hS:=hS.below hb
        clear H664 hb
        refine m_skipG 273 [274,273] (fS [274,273] [undef,vF]) H666 rfl rfl rfl rfl rfl rfl fun _ H667 => ?_
        clear H666
        refine m_skipG 273 [275,273,274] (fS [275,273,274] [undef,vF,undef]) H667 rfl rfl rfl rfl rfl rfl fun _ H668 => ?_
        clear H667
        refine m_skipG 273 [276,273] (fS [276,273] [undef,vF]) H668 rfl rfl rfl rfl rfl rfl fun _ H669 => ?_
        clear H668
        refine wl_batch 101 103 [] [278] [(278,[],vF)] [] H669 (by decide) (by kernel_rfl) trivial fun _ _ H671 hb => ?_
        replace hS:=hS.below hb
        clear H669 hb
        refine m_skipG 278 [279,278] (fS [279,278] [undef,vF]) H671 rfl rfl rfl rfl rfl rfl fun _ H672 => ?_
        clear H671
        refine m_skipG 278 [280,278] (fS [280,278] [undef,vF]) H672 rfl rfl rfl rfl rfl rfl fun _ H673 => ?_
        clear H672
        refine m_skipG 278 [281,278] (fS [281,278] [undef,vF]) H673 rfl rfl rfl rfl rfl rfl fun _ H674 => ?_
        clear H673
        refine wl_batch 106 108 [] [283] [(283,[],vF)] [] H674 (by decide) (by kernel_rfl) trivial fun _ _ H676 hb => ?_
        replace hS:=hS.below hb
        clear H674 hb
        refine m_skipG 283 [284,283] (fS [284,283] [undef,vF]) H676 rfl rfl rfl rfl rfl rfl fun _ H677 => ?_
        clear H676
        refine m_skipG 283 [285,283] (fS [285,283] [undef,vF]) H677 rfl rfl rfl rfl rfl rfl fun _ H678 => ?_
        clear H677
        refine m_skipG 283 [286,283] (fS [286,283] [undef,vF]) H678 rfl rfl rfl rfl rfl rfl fun _ H679 => ?_
        clear H678
        refine wl_batch 111 113 [] [288] [(288,[],vF)] [] H679 (by decide) (by kernel_rfl) trivial fun _ _ H681 hb => ?_
        replace hS:=hS.below hb
        clear H679 hb
        refine m_skipG 288 [289,288] (fS [289,288] [undef,vF]) H681 rfl rfl rfl rfl rfl rfl fun _ H682 => ?_
        clear H681
        refine m_skipG 288 [290,288] (fS [290,288] [undef,vF]) H682 rfl rfl rfl rfl rfl rfl fun _ H683 => ?_
        clear H682
        refine m_skipG 288 [291,288] (fS [291,288] [undef,vF]) H683 rfl rfl rfl rfl rfl rfl fun _ H684 => ?_
        clear H683
        refine wl_batch 116 118 [] [293] [(293,[],vF)] [] H684 (by decide) (by kernel_rfl) trivial fun _ _ H686 hb => ?_
        replace hS:=hS.below hb
        clear H684 hb
        refine m_skipG 293 [294,293] (fS [294,293] [undef,vF]) H686 rfl rfl rfl rfl rfl rfl fun _ H687 => ?_
        clear H686
        refine m_skipG 293 [295,293] (fS [295,293] [undef,vF]) H687 rfl rfl rfl rfl rfl rfl fun _ H688 => ?_
        clear H687
        refine m_skipG 293 [296,293] (fS [296,293] [undef,vF]) H688 rfl rfl rfl rfl rfl rfl fun _ H689 => ?_
        clear H688
        refine wl_batch 121 123 [] [298] [(298,[],vF)] [] H689 (by decide) (by kernel_rfl) trivial fun _ _ H691 hb => ?_
        replace hS:=hS.below hb
        clear H689 hb
        refine m_skipG 298 [299,298] (fS [299,298] [undef,vF]) H691 rfl rfl rfl rfl rfl rfl fun _ H692 => ?_
        clear H691
        refine m_skipG 298 [300,298] (fS [300,298] [undef,vF]) H692 rfl rfl rfl rfl rfl rfl fun _ H693 => ?_
        clear H692
        refine wl_batch 125 127 [] [0] [(0,[],vF)] [] H693 (by decide) (by kernel_rfl) trivial fun _ _ H695 hb => ?_
        replace hS:=hS.below hb
        clear H693 hb
        apply wl_end rfl
        replace hS : SH M X w [eO 9 tS y426.1 g427,eO 9 tS y419.1 g420,eO 51 tyValue y396.1 g397,eI tyValue z322 g345,eB b317 [vS y312.Name,vL g345 z322,vB y312.Important],eO 51 tyValue q303 g311,eB b287 [vS y282.Name,vL g311 q303,vB y282.Important],eI tyValue q272 g280,eB b251 [vS y246.Name,vL g280 q272,vB y246.Important],eB b226 [vS y221.Name,vL g241 q238,vB y221.Important],eO 51 tyValue q238 g241,gE0] _:=hS.sel [5,6,7,8,9,10,11,12,13,14,15,16] rfl
        obtain rfl:=someE hm
        exact ⟨FrG.keep (ks:=[0]) H695 (by kernel_rfl),hS⟩
       replace hm:=bT rfl hm
       refine wl_batchM 89 90 [] [(31,0),(32,0),(264,0),(265,1)] (fS [31,32,264,265] [vL g427 y426.1,vI y426.2,vT,vL g420 y419.1]) [] H494 (by decide) (by kernel_rfl) trivial fun _ _ H496 hb => ?_
       replace hS:=hS.below hb
       clear H494 hb
       have hd:=hS.hand [] [0,1,2,3,4,5,6,7,8,9,10,11,12,13,14,15,16] rfl rfl
       refine m_stpG 264 [266,31,32,264,265] (fS [31,32,264,265] [vL g427 y426.1,vI y426.2,vT,vL g420 y419.1]) H496 rfl rfl rfl rfl (o_lit (T:=tS) (E:=9) (zv:=vN) [vS [45,45,113]] kL9 [gL []] _ H496 hd rfl (by kernel_rfl) (by kernel_rfl) (by kernel_rfl) (by kernel_rfl) (by kernel_rfl) (by kernel_rfl) (by kernel_rfl) rfl (InnL.cons trivial InnL.nil)) (fun _ => rfl) fun _ _ v H500 hq => ?_
       clear H496 hd
       obtain ⟨g497,rfl,hq⟩:=hq
       replace hS : SH M X w [eO 9 tS kL9 g497,eO 51 tyValue y485 g486,eO 51 tyValue y472.Value g473,eO 51 tyValue y463.Value g464,eO 51 tyValue y454.Value g455,eO 9 tS kL3 g442,eO 9 tS y426.1 g427,eO 9 tS y419.1 g420,eO 51 tyValue y396.1 g397,eI tyValue z322 g345,eB b317 [vS y312.Name,vL g345 z322,vB y312.Important],eO 51 tyValue q303 g311,eB b287 [vS y282.Name,vL g311 q303,vB y282.Important],eI tyValue q272 g280,eB b251 [vS y246.Name,vL g280 q272,vB y246.Important],eB b226 [vS y221.Name,vL g241 q238,vB y221.Important],eO 51 tyValue q238 g241,gE0] _:=hS.join [] [0,1,2,3,4,5,6,7,8,9,10,11,12,13,14,15,16] rfl rfl hq
       clear hq
       obtain ⟨y501,hy501,hm⟩:=bindE hm
       obtain ⟨x502,hx502,hm⟩:=letE hm
       refine wl_batch 91 98 [(vB y501)] [31,273] (fS [31,273] [vL g427 y426.1,vB x502]) [fun wz => (true = true ∧ True → RetB Tryz.prog 13 ⟨[vL g420 y419.1,vK g497 1]⟩ (vB y501) wz)] H500 (by decide) (by subst hx502; kernel_rfl) ⟨fun hg => r27_SameTexts_ok (g_a_:=g420) (g_b_:=g497) m _ _ _ hy501 _ (s0im (s0im s0nil (hS.osl 0 rfl)) (hS.osl 7 rfl)),trivial⟩ fun _ _ H504 hb => ?_
       replace hS:=hS.below hb
       clear H500 hb
       cases x502
       case false =>
        replace hm:=bF rfl hm
        refine m_skipG 273 [274,273] (fS [274,273] [undef,vF]) H504 rfl rfl rfl rfl rfl rfl fun _ H629 => ?_
        clear H504
        refine m_skipG 273 [275,273,274] (fS [275,273,274] [undef,vF,undef]) H629 rfl rfl rfl rfl rfl rfl fun _ H630 => ?_
        clear H629
        refine m_skipG 273 [276,273] (fS [276,273] [undef,vF]) H630 rfl rfl rfl rfl rfl rfl fun _ H631 => ?_
        clear H630
        refine wl_batch 101 103 [] [278] [(278,[],vF)] [] H631 (by decide) (by kernel_rfl) trivial fun _ _ H633 hb => ?_
        replace hS:=hS.below hb
        clear H631 hb
        refine m_skipG 278 [279,278] (fS [279,278] [undef,vF]) H633 rfl rfl rfl rfl rfl rfl fun _ H634 => ?_
        clear H633
        refine m_skipG 278 [280,278] (fS [280,278] [undef,vF]) H634 rfl rfl rfl rfl rfl rfl fun _ H635 => ?_
        clear H634
        refine m_skipG 278 [281,278] (fS [281,278] [undef,vF]) H635 rfl rfl rfl rfl rfl rfl fun _ H636 => ?_
        clear H635
        refine wl_batch 106 108 [] [283] [(283,[],vF)] [] H636 (by decide) (by kernel_rfl) trivial fun _ _ H638 hb => ?_
        replace hS:=hS.below hb
        clear H636 hb
        refine m_skipG 283 [284,283] (fS [284,283] [undef,vF]) H638 rfl rfl rfl rfl rfl rfl fun _ H639 => ?_
        clear H638
        refine m_skipG 283 [285,283] (fS [285,283] [undef,vF]) H639 rfl rfl rfl rfl rfl rfl fun _ H640 => ?_
        clear H639
        refine m_skipG 283 [286,283] (fS [286,283] [undef,vF]) H640 rfl rfl rfl rfl rfl rfl fun _ H641 => ?_
        clear H640
        refine wl_batch 111 113 [] [288] [(288,[],vF)] [] H641 (by decide) (by kernel_rfl) trivial fun _ _ H643 hb => ?_
        replace hS:=hS.below hb
        clear H641 hb
        refine m_skipG 288 [289,288] (fS [289,288] [undef,vF]) H643 rfl rfl rfl rfl rfl rfl fun _ H644 => ?_
        clear H643
        refine m_skipG 288 [290,288] (fS [290,288] [undef,vF]) H644 rfl rfl rfl rfl rfl rfl fun _ H645 => ?_
        clear H644
        refine m_skipG 288 [291,288] (fS [291,288] [undef,vF]) H645 rfl rfl rfl rfl rfl rfl fun _ H646 => ?_
        clear H645
        refine wl_batch 116 118 [] [293] [(293,[],vF)] [] H646 (by decide) (by kernel_rfl) trivial fun _ _ H648 hb => ?_
        replace hS:=hS.below hb
        clear H646 hb
        refine m_skipG 293 [294,293] (fS [294,293] [undef,vF]) H648 rfl rfl rfl rfl rfl rfl fun _ H649 => ?_
        clear H648
        refine m_skipG 293 [295,293] (fS [295,293] [undef,vF]) H649 rfl rfl rfl rfl rfl rfl fun _ H650 => ?_
        clear H649
        refine m_skipG 293 [296,293] (fS [296,293] [undef,vF]) H650 rfl rfl rfl rfl rfl rfl fun _ H651 => ?_
        clear H650
        refine wl_batch 121 123 [] [298] [(298,[],vF)] [] H651 (by decide) (by kernel_rfl) trivial fun _ _ H653 hb => ?_
        replace hS:=hS.below hb
        clear H651 hb
        refine m_skipG 298 [299,298] (fS [299,298] [undef,vF]) H653 rfl rfl rfl rfl rfl rfl fun _ H654 => ?_
        clear H653
        refine m_skipG 298 [300,298] (fS [300,298] [undef,vF]) H654 rfl rfl rfl rfl rfl rfl fun _ H655 => ?_
        clear H654
        refine wl_batch 125 127 [] [0] [(0,[],vF)] [] H655 (by decide) (by kernel_rfl) trivial fun _ _ H657 hb => ?_
        replace hS:=hS.below hb
        clear H655 hb
        apply wl_end rfl
        replace hS : SH M X w [eO 9 tS y426.1 g427,eO 9 tS y419.1 g420,eO 51 tyValue y396.1 g397,eI tyValue z322 g345,eB b317 [vS y312.Name,vL g345 z322,vB y312.Important],eO 51 tyValue q303 g311,eB b287 [vS y282.Name,vL g311 q303,vB y282.Important],eI tyValue q272 g280,eB b251 [vS y246.Name,vL g280 q272,vB y246.Important],eB b226 [vS y221.Name,vL g241 q238,vB y221.Important],eO 51 tyValue q238 g241,gE0] _:=hS.sel [6,7,8,9,10,11,12,13,14,15,16,17] rfl
        obtain rfl:=someE hm
        exact ⟨FrG.keep (ks:=[0]) H657 (by kernel_rfl),hS⟩
       replace hm:=bT rfl hm
       refine wl_batchM 98 99 [] [(273,0),(274,1)] (fS [273,274] [vT,vL g427 y426.1]) [] H504 (by decide) (by kernel_rfl) trivial fun _ _ H506 hb => ?_
       replace hS:=hS.below hb
       clear H504 hb
       have hd:=hS.hand [] [0,1,2,3,4,5,6,7,8,9,10,11,12,13,14,15,16,17] rfl rfl
       refine m_stpG 273 [275,273,274] (fS [273,274] [vT,vL g427 y426.1]) H506 rfl rfl rfl rfl (o_lit (T:=tS) (E:=9) (zv:=vN) [vS [109,97,114,103,105,110,45,116,111,112]] kL13 [gL []] _ H506 hd rfl (by kernel_rfl) (by kernel_rfl) (by kernel_rfl) (by kernel_rfl) (by kernel_rfl) (by kernel_rfl) (by kernel_rfl) rfl (InnL.cons trivial InnL.nil)) (fun _ => rfl) fun _ _ v H510 hq => ?_
       clear H506 hd
       obtain ⟨g507,rfl,hq⟩:=hq
       replace hS : SH M X w [eO 9 tS kL13 g507,eO 9 tS kL9 g497,eO 51 tyValue y485 g486,eO 51 tyValue y472.Value g473,eO 51 tyValue y463.Value g464,eO 51 tyValue y454.Value g455,eO 9 tS kL3 g442,eO 9 tS y426.1 g427,eO 9 tS y419.1 g420,eO 51 tyValue y396.1 g397,eI tyValue z322 g345,eB b317 [vS y312.Name,vL g345 z322,vB y312.Important],eO 51 tyValue q303 g311,eB b287 [vS y282.Name,vL g311 q303,vB y282.Important],eI tyValue q272 g280,eB b251 [vS y246.Name,vL g280 q272,vB y246.Important],eB b226 [vS y221.Name,vL g241 q238,vB y221.Important],eO 51 tyValue q238 g241,gE0] _:=hS.join [] [0,1,2,3,4,5,6,7,8,9,10,11,12,13,14,15,16,17] rfl rfl hq
       clear hq
       obtain ⟨y511,hy511,hm⟩:=bindE hm
       obtain ⟨x512,hx512,hm⟩:=letE hm
       refine wl_batch 100 103 [(vB y511)] [278] [(278,[],vB x512)] [fun wz => (true = true ∧ True → RetB Tryz.prog 13 ⟨[vL g427 y426.1,vK g507 1]⟩ (vB y511) wz)] H510 (by decide) (by subst hx512; kernel_rfl) ⟨fun hg => r27_SameTexts_ok (g_a_:=g427) (g_b_:=g507) m _ _ _ hy511 _ (s0im (s0im s0nil (hS.osl 0 rfl)) (hS.osl 7 rfl)),trivial⟩ fun _ _ H514 hb => ?_
       replace hS:=hS.below hb
       clear H510 hb
       cases x512
       case false =>
        replace hm:=bF rfl hm
        refine m_skipG 278 [279,278] (fS [279,278] [undef,vF]) H514 rfl rfl rfl rfl rfl rfl fun _ H605 => ?_
        clear H514
        refine m_skipG 278 [280,278] (fS [280,278] [undef,vF]) H605 rfl rfl rfl rfl rfl rfl fun _ H606 => ?_
        clear H605
        refine m_skipG 278 [281,278] (fS [281,278] [undef,vF]) H606 rfl rfl rfl rfl rfl rfl fun _ H607 => ?_
        clear H606
        refine wl_batch 106 108 [] [283] [(283,[],vF)] [] H607 (by decide) (by kernel_rfl) trivial fun _ _ H609 hb => ?_
        replace hS:=hS.below hb
        clear H607 hb
        refine m_skipG 283 [284,283] (fS [284,283] [undef,vF]) H609 rfl rfl rfl rfl rfl rfl fun _ H610 => ?_
        clear H609
        refine m_skipG 283 [285,283] (fS [285,283] [undef,vF]) H610 rfl rfl rfl rfl rfl rfl fun _ H611 => ?_
        clear H610
        refine m_skipG 283 [286,283] (fS [286,283] [undef,vF]) H611 rfl rfl rfl rfl rfl rfl fun _ H612 => ?_
        clear H611
        refine wl_batch 111 113 [] [288] [(288,[],vF)] [] H612 (by decide) (by kernel_rfl) trivial fun _ _ H614 hb => ?_
        replace hS:=hS.below hb
        clear H612 hb
        refine m_skipG 288 [289,288] (fS [289,288] [undef,vF]) H614 rfl rfl rfl rfl rfl rfl fun _ H615 => ?_
        clear H614
        refine m_skipG 288 [290,288] (fS [290,288] [undef,vF]) H615 rfl rfl rfl rfl rfl rfl fun _ H616 => ?_
        clear H615
        refine m_skipG 288 [291,288] (fS [291,288] [undef,vF]) H616 rfl rfl rfl rfl rfl rfl fun _ H617 => ?_
        clear H616
        refine wl_batch 116 118 [] [293] [(293,[],vF)] [] H617 (by decide) (by kernel_rfl) trivial fun _ _ H619 hb => ?_
        replace hS:=hS.below hb
        clear H617 hb
        refine m_skipG 293 [294,293] (fS [294,293] [undef,vF]) H619 rfl rfl rfl rfl rfl rfl fun _ H620 => ?_
        clear H619
        refine m_skipG 293 [295,293] (fS [295,293] [undef,vF]) H620 rfl rfl rfl rfl rfl rfl fun _ H621 => ?_
        clear H620
        refine m_skipG 293 [296,293] (fS [296,293] [undef,vF]) H621 rfl rfl rfl rfl rfl rfl fun _ H622 => ?_
        clear H621
        refine wl_batch 121 123 [] [298] [(298,[],vF)] [] H622 (by decide) (by kernel_rfl) trivial fun _ _ H624 hb => ?_
        replace hS:=hS.below hb
        clear H622 hb
        refine m_skipG 298 [299,298] (fS [299,298] [undef,vF]) H624 rfl rfl rfl rfl rfl rfl fun _ H625 => ?_
        clear H624
        refine m_skipG 298 [300,298] (fS [300,298] [undef,vF]) H625 rfl rfl rfl rfl rfl rfl fun _ H626 => ?_
        clear H625
        refine wl_batch 125 127 [] [0] [(0,[],vF)] [] H626 (by decide) (by kernel_rfl) trivial fun _ _ H628 hb => ?_
        replace hS:=hS.below hb
        clear H626 hb
        apply wl_end rfl
        replace hS : SH M X w [eO 9 tS y426.1 g427,eO 9 tS y419.1 g420,eO 51 tyValue y396.1 g397,eI tyValue z322 g345,eB b317 [vS y312.Name,vL g345 z322,vB y312.Important],eO 51 tyValue q303 g311,eB b287 [vS y282.Name,vL g311 q303,vB y282.Important],eI tyValue q272 g280,eB b251 [vS y246.Name,vL g280 q272,vB y246.Important],eB b226 [vS y221.Name,vL g241 q238,vB y221.Important],eO 51 tyValue q238 g241,gE0] _:=hS.sel [7,8,9,10,11,12,13,14,15,16,17,18] rfl
        obtain rfl:=someE hm
        exact ⟨FrG.keep (ks:=[0]) H628 (by kernel_rfl),hS⟩
       replace hm:=bT rfl hm
       obtain ⟨y515,hy515,hm⟩:=bindE hm
       have hd:=hS.hand [] [0,1,2,3,4,5,6,7,8,9,10,11,12,13,14,15,16,17,18] rfl rfl
       refine m_stpG 278 [279,278] [(278,[],vT)] H514 rfl rfl rfl rfl (o_callx H514 rfl rfl (r04_Of_ok m _ _ hy515 _ _ hd)) (fun _ => rfl) fun _ _ v H519 hq => ?_
       clear H514 hd
       obtain ⟨g516,rfl,hq⟩:=hq
       replace hS : SH M X w [eO 51 tyValue y515 g516,eO 9 tS kL13 g507,eO 9 tS kL9 g497,eO 51 tyValue y485 g486,eO 51 tyValue y472.Value g473,eO 51 tyValue y463.Value g464,eO 51 tyValue y454.Value g455,eO 9 tS kL3 g442,eO 9 tS y426.1 g427,eO 9 tS y419.1 g420,eO 51 tyValue y396.1 g397,eI tyValue z322 g345,eB b317 [vS y312.Name,vL g345 z322,vB y312.Important],eO 51 tyValue q303 g311,eB b287 [vS y282.Name,vL g311 q303,vB y282.Important],eI tyValue q272 g280,eB b251 [vS y246.Name,vL g280 q272,vB y246.Important],eB b226 [vS y221.Name,vL g241 q238,vB y221.Important],eO 51 tyValue q238 g241,gE0] _:=hS.join [] [0,1,2,3,4,5,6,7,8,9,10,11,12,13,14,15,16,17,18] rfl rfl hq
       clear hq
       obtain ⟨y520,hy520,hm⟩:=bindE hm
       obtain ⟨x521,hx521,hm⟩:=letE hm
       refine wl_batch 104 108 [(vS y520)] [283] [(283,[],vB x521)] [fun wz => (true = true ∧ True → RetB Tryz.prog 25 ⟨[vL g516 y515]⟩ (vS y520) wz)] H519 (by decide) (by subst hx521; kernel_rfl) ⟨fun hg => short_Wide_ok (g_l_:=g516) m _ _ hy520 _ (s0im s0nil (hS.osl 0 rfl)),trivial⟩ fun _ _ H523 hb => ?_
       replace hS:=hS.below hb
       clear H519 hb
       cases x521
       case false =>
        replace hm:=bF rfl hm
        refine m_skipG 283 [284,283] (fS [284,283] [undef,vF]) H523 rfl rfl rfl rfl rfl rfl fun _ H586 => ?_
        clear H523
        refine m_skipG 283 [285,283] (fS [285,283] [undef,vF]) H586 rfl rfl rfl rfl rfl rfl fun _ H587 => ?_
        clear H586
        refine m_skipG 283 [286,283] (fS [286,283] [undef,vF]) H587 rfl rfl rfl rfl rfl rfl fun _ H588 => ?_
        clear H587
        refine wl_batch 111 113 [] [288] [(288,[],vF)] [] H588 (by decide) (by kernel_rfl) trivial fun _ _ H590 hb => ?_
        replace hS:=hS.below hb
        clear H588 hb
        refine m_skipG 288 [289,288] (fS [289,288] [undef,vF]) H590 rfl rfl rfl rfl rfl rfl fun _ H591 => ?_
        clear H590
        refine m_skipG 288 [290,288] (fS [290,288] [undef,vF]) H591 rfl rfl rfl rfl rfl rfl fun _ H592 => ?_
        clear H591
        refine m_skipG 288 [291,288] (fS [291,288] [undef,vF]) H592 rfl rfl rfl rfl rfl rfl fun _ H593 => ?_
        clear H592
        refine wl_batch 116 118 [] [293] [(293,[],vF)] [] H593 (by decide) (by kernel_rfl) trivial fun _ _ H595 hb => ?_
        replace hS:=hS.below hb
        clear H593 hb
        refine m_skipG 293 [294,293] (fS [294,293] [undef,vF]) H595 rfl rfl rfl rfl rfl rfl fun _ H596 => ?_
        clear H595
        refine m_skipG 293 [295,293] (fS [295,293] [undef,vF]) H596 rfl rfl rfl rfl rfl rfl fun _ H597 => ?_
        clear H596
        refine m_skipG 293 [296,293] (fS [296,293] [undef,vF]) H597 rfl rfl rfl rfl rfl rfl fun _ H598 => ?_
        clear H597
        refine wl_batch 121 123 [] [298] [(298,[],vF)] [] H598 (by decide) (by kernel_rfl) trivial fun _ _ H600 hb => ?_
        replace hS:=hS.below hb
        clear H598 hb
        refine m_skipG 298 [299,298] (fS [299,298] [undef,vF]) H600 rfl rfl rfl rfl rfl rfl fun _ H601 => ?_
        clear H600
        refine m_skipG 298 [300,298] (fS [300,298] [undef,vF]) H601 rfl rfl rfl rfl rfl rfl fun _ H602 => ?_
        clear H601
        refine wl_batch 125 127 [] [0] [(0,[],vF)] [] H602 (by decide) (by kernel_rfl) trivial fun _ _ H604 hb => ?_
        replace hS:=hS.below hb
        clear H602 hb
        apply wl_end rfl
        replace hS : SH M X w [eO 9 tS y426.1 g427,eO 9 tS y419.1 g420,eO 51 tyValue y396.1 g397,eI tyValue z322 g345,eB b317 [vS y312.Name,vL g345 z322,vB y312.Important],eO 51 tyValue q303 g311,eB b287 [vS y282.Name,vL g311 q303,vB y282.Important],eI tyValue q272 g280,eB b251 [vS y246.Name,vL g280 q272,vB y246.Important],eB b226 [vS y221.Name,vL g241 q238,vB y221.Important],eO 51 tyValue q238 g241,gE0] _:=hS.sel [8,9,10,11,12,13,14,15,16,17,18,19] rfl
        obtain rfl:=someE hm
        exact ⟨FrG.keep (ks:=[0]) H604 (by kernel_rfl),hS⟩
       replace hm:=bT rfl hm
       obtain ⟨y524,hy524,hm⟩:=bindE hm
       have hd:=hS.hand [] [0,1,2,3,4,5,6,7,8,9,10,11,12,13,14,15,16,17,18,19] rfl rfl
       refine m_stpG 283 [284,283] [(283,[],vT)] H523 rfl rfl rfl rfl (o_callx H523 rfl rfl (r04_Of_ok m _ _ hy524 _ _ hd)) (fun _ => rfl) fun _ _ v H528 hq => ?_
       clear H523 hd
       obtain ⟨g525,rfl,hq⟩:=hq
       replace hS : SH M X w [eO 51 tyValue y524 g525,eO 51 tyValue y515 g516,eO 9 tS kL13 g507,eO 9 tS kL9 g497,eO 51 tyValue y485 g486,eO 51 tyValue y472.Value g473,eO 51 tyValue y463.Value g464,eO 51 tyValue y454.Value g455,eO 9 tS kL3 g442,eO 9 tS y426.1 g427,eO 9 tS y419.1 g420,eO 51 tyValue y396.1 g397,eI tyValue z322 g345,eB b317 [vS y312.Name,vL g345 z322,vB y312.Important],eO 51 tyValue q303 g311,eB b287 [vS y282.Name,vL g311 q303,vB y282.Important],eI tyValue q272 g280,eB b251 [vS y246.Name,vL g280 q272,vB y246.Important],eB b226 [vS y221.Name,vL g241 q238,vB y221.Important],eO 51 tyValue q238 g241,gE0] _:=hS.join [] [0,1,2,3,4,5,6,7,8,9,10,11,12,13,14,15,16,17,18,19] rfl rfl hq
       clear hq
       obtain ⟨y529,hy529,hm⟩:=bindE hm
       obtain ⟨x530,hx530,hm⟩:=letE hm
       refine wl_batch 109 113 [(vS y529)] [288] [(288,[],vB x530)] [fun wz => (true = true ∧ True → RetB Tryz.prog 25 ⟨[vL g525 y524]⟩ (vS y529) wz)] H528 (by decide) (by subst hx530; kernel_rfl) ⟨fun hg => short_Wide_ok (g_l_:=g525) m _ _ hy529 _ (s0im s0nil (hS.osl 0 rfl)),trivial⟩ fun _ _ H532 hb => ?_
       replace hS:=hS.below hb
       clear H528 hb
       cases x530
       case false =>
        replace hm:=bF rfl hm
        refine m_skipG 288 [289,288] (fS [289,288] [undef,vF]) H532 rfl rfl rfl rfl rfl rfl fun _ H572 => ?_
        clear H532
        refine m_skipG 288 [290,288] (fS [290,288] [undef,vF]) H572 rfl rfl rfl rfl rfl rfl fun _ H573 => ?_
        clear H572
        refine m_skipG 288 [291,288] (fS [291,288] [undef,vF]) H573 rfl rfl rfl rfl rfl rfl fun _ H574 => ?_
        clear H573
        refine wl_batch 116 118 [] [293] [(293,[],vF)] [] H574 (by decide) (by kernel_rfl) trivial fun _ _ H576 hb => ?_
        replace hS:=hS.below hb
        clear H574 hb
        refine m_skipG 293 [294,293] (fS [294,293] [undef,vF]) H576 rfl rfl rfl rfl rfl rfl fun _ H577 => ?_
        clear H576
        refine m_skipG 293 [295,293] (fS [295,293] [undef,vF]) H577 rfl rfl rfl rfl rfl rfl fun _ H578 => ?_
        clear H577
        refine m_skipG 293 [296,293] (fS [296,293] [undef,vF]) H578 rfl rfl rfl rfl rfl rfl fun _ H579 => ?_
        clear H578
        refine wl_batch 121 123 [] [298] [(298,[],vF)] [] H579 (by decide) (by kernel_rfl) trivial fun _ _ H581 hb => ?_
        replace hS:=hS.below hb
        clear H579 hb
        refine m_skipG 298 [299,298] (fS [299,298] [undef,vF]) H581 rfl rfl rfl rfl rfl rfl fun _ H582 => ?_
        clear H581
        refine m_skipG 298 [300,298] (fS [300,298] [undef,vF]) H582 rfl rfl rfl rfl rfl rfl fun _ H583 => ?_
        clear H582
        refine wl_batch 125 127 [] [0] [(0,[],vF)] [] H583 (by decide) (by kernel_rfl) trivial fun _ _ H585 hb => ?_
        replace hS:=hS.below hb
        clear H583 hb
        apply wl_end rfl
        replace hS : SH M X w [eO 9 tS y426.1 g427,eO 9 tS y419.1 g420,eO 51 tyValue y396.1 g397,eI tyValue z322 g345,eB b317 [vS y312.Name,vL g345 z322,vB y312.Important],eO 51 tyValue q303 g311,eB b287 [vS y282.Name,vL g311 q303,vB y282.Important],eI tyValue q272 g280,eB b251 [vS y246.Name,vL g280 q272,vB y246.Important],eB b226 [vS y221.Name,vL g241 q238,vB y221.Important],eO 51 tyValue q238 g241,gE0] _:=hS.sel [9,10,11,12,13,14,15,16,17,18,19,20] rfl
        obtain rfl:=someE hm
        exact ⟨FrG.keep (ks:=[0]) H585 (by kernel_rfl),hS⟩
       replace hm:=bT rfl hm
       obtain ⟨y533,hy533,hm⟩:=bindE hm
       have hd:=hS.hand [] [0,1,2,3,4,5,6,7,8,9,10,11,12,13,14,15,16,17,18,19,20] rfl rfl
       refine m_stpG 288 [289,288] [(288,[],vT)] H532 rfl rfl rfl rfl (o_callx H532 rfl rfl (r04_Of_ok m _ _ hy533 _ _ hd)) (fun _ => rfl) fun _ _ v H537 hq => ?_
       clear H532 hd
       obtain ⟨g534,rfl,hq⟩:=hq
       replace hS : SH M X w [eO 51 tyValue y533 g534,eO 51 tyValue y524 g525,eO 51 tyValue y515 g516,eO 9 tS kL13 g507,eO 9 tS kL9 g497,eO 51 tyValue y485 g486,eO 51 tyValue y472.Value g473,eO 51 tyValue y463.Value g464,eO 51 tyValue y454.Value g455,eO 9 tS kL3 g442,eO 9 tS y426.1 g427,eO 9 tS y419.1 g420,eO 51 tyValue y396.1 g397,eI tyValue z322 g345,eB b317 [vS y312.Name,vL g345 z322,vB y312.Important],eO 51 tyValue q303 g311,eB b287 [vS y282.Name,vL g311 q303,vB y282.Important],eI tyValue q272 g280,eB b251 [vS y246.Name,vL g280 q272,vB y246.Important],eB b226 [vS y221.Name,vL g241 q238,vB y221.Important],eO 51 tyValue q238 g241,gE0] _:=hS.join [] [0,1,2,3,4,5,6,7,8,9,10,11,12,13,14,15,16,17,18,19,20] rfl rfl hq
       clear hq
       obtain ⟨y538,hy538,hm⟩:=bindE hm
       obtain ⟨x539,hx539,hm⟩:=letE hm
       refine wl_batch 114 118 [(vS y538)] [293] [(293,[],vB x539)] [fun wz => (true = true ∧ True → RetB Tryz.prog 25 ⟨[vL g534 y533]⟩ (vS y538) wz)] H537 (by decide) (by subst hx539; kernel_rfl) ⟨fun hg => short_Wide_ok (g_l_:=g534) m _ _ hy538 _ (s0im s0nil (hS.osl 0 rfl)),trivial⟩ fun _ _ H541 hb => ?_
       replace hS:=hS.below hb
       clear H537 hb
       cases x539
       case false =>
        replace hm:=bF rfl hm
        refine m_skipG 293 [294,293] (fS [294,293] [undef,vF]) H541 rfl rfl rfl rfl rfl rfl fun _ H563 => ?_
        clear H541
        refine m_skipG 293 [295,293] (fS [295,293] [undef,vF]) H563 rfl rfl rfl rfl rfl rfl fun _ H564 => ?_
        clear H563
        refine m_skipG 293 [296,293] (fS [296,293] [undef,vF]) H564 rfl rfl rfl rfl rfl rfl fun _ H565 => ?_
        clear H564
        refine wl_batch 121 123 [] [298] [(298,[],vF)] [] H565 (by decide) (by kernel_rfl) trivial fun _ _ H567 hb => ?_
        replace hS:=hS.below hb
        clear H565 hb
        refine m_skipG 298 [299,298] (fS [299,298] [undef,vF]) H567 rfl rfl rfl rfl rfl rfl fun _ H568 => ?_
        clear H567
        refine m_skipG 298 [300,298] (fS [300,298] [undef,vF]) H568 rfl rfl rfl rfl rfl rfl fun _ H569 => ?_
        clear H568
        refine wl_batch 125 127 [] [0] [(0,[],vF)] [] H569 (by decide) (by kernel_rfl) trivial fun _ _ H571 hb => ?_
        replace hS:=hS.below hb
        clear H569 hb
        apply wl_end rfl
        replace hS : SH M X w [eO 9 tS y426.1 g427,eO 9 tS y419.1 g420,eO 51 tyValue y396.1 g397,eI tyValue z322 g345,eB b317 [vS y312.Name,vL g345 z322,vB y312.Important],eO 51 tyValue q303 g311,eB b287 [vS y282.Name,vL g311 q303,vB y282.Important],eI tyValue q272 g280,eB b251 [vS y246.Name,vL g280 q272,vB y246.Important],eB b226 [vS y221.Name,vL g241 q238,vB y221.Important],eO 51 tyValue q238 g241,gE0] _:=hS.sel [10,11,12,13,14,15,16,17,18,19,20,21] rfl
        obtain rfl:=someE hm
        exact ⟨FrG.keep (ks:=[0]) H571 (by kernel_rfl),hS⟩
       replace hm:=bT rfl hm
       obtain ⟨y542,hy542,hm⟩:=bindE hm
       have hd:=hS.hand [] [0,1,2,3,4,5,6,7,8,9,10,11,12,13,14,15,16,17,18,19,20,21] rfl rfl
       refine m_stpG 293 [294,293] [(293,[],vT)] H541 rfl rfl rfl rfl (o_callx H541 rfl rfl (r04_Of_ok m _ _ hy542 _ _ hd)) (fun _ => rfl) fun _ _ v H546 hq => ?_
       clear H541 hd
       obtain ⟨g543,rfl,hq⟩:=hq
       replace hS : SH M X w [eO 51 tyValue y542 g543,eO 51 tyValue y533 g534,eO 51 tyValue y524 g525,eO 51 tyValue y515 g516,eO 9 tS kL13 g507,eO 9 tS kL9 g497,eO 51 tyValue y485 g486,eO 51 tyValue y472.Value g473,eO 51 tyValue y463.Value g464,eO 51 tyValue y454.Value g455,eO 9 tS kL3 g442,eO 9 tS y426.1 g427,eO 9 tS y419.1 g420,eO 51 tyValue y396.1 g397,eI tyValue z322 g345,eB b317 [vS y312.Name,vL g345 z322,vB y312.Important],eO 51 tyValue q303 g311,eB b287 [vS y282.Name,vL g311 q303,vB y282.Important],eI tyValue q272 g280,eB b251 [vS y246.Name,vL g280 q272,vB y246.Important],eB b226 [vS y221.Name,vL g241 q238,vB y221.Important],eO 51 tyValue q238 g241,gE0] _:=hS.join [] [0,1,2,3,4,5,6,7,8,9,10,11,12,13,14,15,16,17,18,19,20,21] rfl rfl hq
       clear hq
       obtain ⟨y547,hy547,hm⟩:=bindE hm
       obtain ⟨x548,hx548,hm⟩:=letE hm
       refine wl_batch 119 123 [(vB y547)] [298] [(298,[],vB x548)] [fun wz => (true = true ∧ True → RetB Tryz.prog 18 ⟨[vL g543 y542]⟩ (vB y547) wz)] H546 (by decide) (by subst hx548; kernel_rfl) ⟨fun hg => short_Var_ok (g_l_:=g543) m _ _ hy547 _ (s0im s0nil (hS.osl 0 rfl)),trivial⟩ fun _ _ H550 hb => ?_
       replace hS:=hS.below hb
       clear H546 hb
       cases x548
       case false =>
        replace hm:=bF rfl hm
        refine m_skipG 298 [299,298] (fS [299,298] [undef,vF]) H550 rfl rfl rfl rfl rfl rfl fun _ H559 => ?_
        clear H550
        refine m_skipG 298 [300,298] (fS [300,298] [undef,vF]) H559 rfl rfl rfl rfl rfl rfl fun _ H560 => ?_
        clear H559
        refine wl_batch 125 127 [] [0] [(0,[],vF)] [] H560 (by decide) (by kernel_rfl) trivial fun _ _ H562 hb => ?_
        replace hS:=hS.below hb
        clear H560 hb
        apply wl_end rfl
        replace hS : SH M X w [eO 9 tS y426.1 g427,eO 9 tS y419.1 g420,eO 51 tyValue y396.1 g397,eI tyValue z322 g345,eB b317 [vS y312.Name,vL g345 z322,vB y312.Important],eO 51 tyValue q303 g311,eB b287 [vS y282.Name,vL g311 q303,vB y282.Important],eI tyValue q272 g280,eB b251 [vS y246.Name,vL g280 q272,vB y246.Important],eB b226 [vS y221.Name,vL g241 q238,vB y221.Important],eO 51 tyValue q238 g241,gE0] _:=hS.sel [11,12,13,14,15,16,17,18,19,20,21,22] rfl
        obtain rfl:=someE hm
        exact ⟨FrG.keep (ks:=[0]) H562 (by kernel_rfl),hS⟩
       replace hm:=bT rfl hm
       obtain ⟨y551,hy551,hm⟩:=bindE hm
       have hd:=hS.hand [] [0,1,2,3,4,5,6,7,8,9,10,11,12,13,14,15,16,17,18,19,20,21,22] rfl rfl
       refine m_stpG 298 [299,298] [(298,[],vT)] H550 rfl rfl rfl rfl (o_callx H550 rfl rfl (r04_Of_ok m _ _ hy551 _ _ hd)) (fun _ => rfl) fun _ _ v H555 hq => ?_
       clear H550 hd
       obtain ⟨g552,rfl,hq⟩:=hq
       replace hS : SH M X w [eO 51 tyValue y551 g552,eO 51 tyValue y542 g543,eO 51 tyValue y533 g534,eO 51 tyValue y524 g525,eO 51 tyValue y515 g516,eO 9 tS kL13 g507,eO 9 tS kL9 g497,eO 51 tyValue y485 g486,eO 51 tyValue y472.Value g473,eO 51 tyValue y463.Value g464,eO 51 tyValue y454.Value g455,eO 9 tS kL3 g442,eO 9 tS y426.1 g427,eO 9 tS y419.1 g420,eO 51 tyValue y396.1 g397,eI tyValue z322 g345,eB b317 [vS y312.Name,vL g345 z322,vB y312.Important],eO 51 tyValue q303 g311,eB b287 [vS y282.Name,vL g311 q303,vB y282.Important],eI tyValue q272 g280,eB b251 [vS y246.Name,vL g280 q272,vB y246.Important],eB b226 [vS y221.Name,vL g241 q238,vB y221.Important],eO 51 tyValue q238 g241,gE0] _:=hS.join [] [0,1,2,3,4,5,6,7,8,9,10,11,12,13,14,15,16,17,18,19,20,21,22] rfl rfl hq
       clear hq
       obtain ⟨y556,hy556,hm⟩:=bindE hm
       refine wl_batch 124 127 [(vB y556)] [0] [(0,[],vB y556)] [fun wz => (true = true ∧ True → RetB Tryz.prog 18 ⟨[vL g552 y551]⟩ (vB y556) wz)] H555 (by decide) (by kernel_rfl) ⟨fun hg => short_Var_ok (g_l_:=g552) m _ _ hy556 _ (s0im s0nil (hS.osl 0 rfl)),trivial⟩ fun _ _ H558 hb => ?_
       replace hS:=hS.below hb
       clear H555 hb
       apply wl_end rfl
       replace hS : SH M X w [eO 9 tS y426.1 g427,eO 9 tS y419.1 g420,eO 51 tyValue y396.1 g397,eI tyValue z322 g345,eB b317 [vS y312.Name,vL g345 z322,vB y312.Important],eO 51 tyValue q303 g311,eB b287 [vS y282.Name,vL g311 q303,vB y282.Important],eI tyValue q272 g280,eB b251 [vS y246.Name,vL g280 q272,vB y246.Important],eB b226 [vS y221.Name,vL g241 q238,vB y221.Important],eO 51 tyValue q238 g241,gE0] _:=hS.sel [12,13,14,15,16,17,18,19,20,21,22,23] rfl
       obtain rfl:=someE hm
       exact ⟨FrG.keep (ks:=[0]) H558 (by kernel_rfl),hS⟩
      ·rintro _ _ ⟨H,hS⟩
       replace hS : SH M X w [gE0] _:=hS.sel [11] rfl
       apply w_ret
       obtain rfl:=someE hm
       exact retR1 H rfl rfl ⟨_,rfl,rfl,(hS.sel [] rfl)⟩
theorem law27_ShortNames_ok  (m : Nat)  (r : Bool) (hm : law27_ShortNames m = some r) (w : World) (hL : S0 F0 [gE0] w ∧ fpl [gE0] = []) : RetB Tryz.prog 6 ⟨[]⟩ (vB r) w:=retB_of hL (Tryz.call6 _) (fun w' h => law27_ShortNames_w F0 m    r hm w' h)

end Go.Proofs.YtpgflfjmjppmeaaGreatDoor
