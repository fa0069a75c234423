/-
  What the Go functions compute, as Lean functions, and that a call returns just that. Printed by a program.
-/
import Derived.Test.YtipafpkdkhnjmaaDoorRows
import Derived.Test.YtipafpkdkhnjmaaDoorA
import Derived.Test.YtipafpkdkhnjmaaDoorIA
import Derived.Test.YtipafpkdkhnjmaaDoorRN
import Derived.Test.YtipafpkdkhnjmaaDoorM
import Derived.Test.YtipafpkdkhnjmaaDoorW40Na
set_option linter.unusedVariables false
set_option maxRecDepth 20000
set_option maxHeartbeats 4000000
namespace Go.Proofs.YtipafpkdkhnjmaaDoor
open Go.V Go.RowKit

theorem strings_Count_w  (M : Av) (m : Nat) (s : Str) (substr : Str) (r : Int) (hm : strings_Count m s substr = some r) (w : World) (hS : S0 M [] w) : Calls Tryd.prog 41 ⟨[vS s,vS substr]⟩ w (fun e w' => ∃ v,e = .returned v ∧ v = vI r ∧ SH M (fpl []) w [] w'):=by
 rw [strings_Count] at hm
 have hS0 : SH M (fpl []) w [] w:=hS
 generalize hX : fpl [] = X at hS0 ⊢
 clear hS hX
 have hS:=hS0
 clear hS0
 refine calls_entryP Tryd.func41 rfl Tryd.ntmps41 rfl fun _ H => ?_
 refine s_reg [] [0,1] (fS [0,1] [vS s,vS substr]) [] H (by kernel_rfl) trivial fun _ _ H2 hb => ?_
 replace hS:=hS.below hb
 clear H hb
 apply w_seq
 refine s_reg [] [0,1,9] (fS [0,1,9] [vS s,vS substr,vB ((ln substr) == 0)]) [] H2 (by kernel_rfl) trivial fun _ _ H4 hb => ?_
 replace hS:=hS.below hb
 clear H2 hb
 refine w_if H4 rfl (fun hc => ?c30) (fun hc => ?_)
 case c30 =>
  replace hm:=bT hc hm
  exact noneE hm
 replace hm:=bF hc hm
 apply w_skip
 apply w_seq
 refine s_reg [] [0,1,15] (fS [0,1,15] [vS s,vS substr,vB ((ln substr) == 1)]) [] H4 (by kernel_rfl) trivial fun _ _ H6 hb => ?_
 replace hS:=hS.below hb
 clear H4 hb
 refine w_if H6 rfl (fun hc => ?c29) (fun hc => ?_)
 case c29 =>
  replace hm:=bT hc hm
  obtain ⟨ho7,hm⟩:=chkE hm
  refine s_reg [(vI (nCountByte s (bat substr 0)))] [4] [(4,[],vI (nCountByte s (bat substr 0)))] [fun _ => 0 ≤ (0 : Int) ∧ (0 : Int) < ln substr,rB 65 [vS s,vU (bat substr 0)] (vI (nCountByte s (bat substr 0)))] H6 (by kernel_rfl) ⟨ho7,(nat65 _ _ _),trivial⟩ fun _ _ H9 hb => ?_
  replace hS:=hS.below hb
  clear H6 hb
  apply w_ret
  obtain rfl:=someE hm
  exact retR1 H9 rfl rfl ⟨_,rfl,rfl,(hS.sel [] rfl)⟩
 replace hm:=bF hc hm
 apply w_skip
 refine s_reg [] [0,1,5] (fS [0,1,5] [vS s,vS substr,vI 0]) [] H6 (by kernel_rfl) trivial fun _ _ H11 hb => ?_
 replace hS:=hS.below hb
 clear H6 hb
 apply w_block
 refine w_loop (fun kk a' w' => ∃ (v12 : Str) (v13 : Int),strings_Count_L1 m substr kk v12 v13 = some _ ∧ Fr 34 (fS [1,0,5] [vS substr,vS v12,vI v13]) a' ∧ SH M X w [] w') ⟨_,s,0,hm,FrG.keep (ks:=[1,0,5]) H11 (by kernel_rfl),hS⟩ ?_
 clear hm H11 hS
 rintro kk _ _ ⟨v12,v13,hm,H,hS⟩
 cases kk with
 | zero => exact noneE hm
 | succ kk =>
  rw [strings_Count_L1] at hm
  apply w_block
  obtain ⟨y14,hy14,hm⟩:=bindE hm
  refine s_reg [(vI y14)] [0,1,5,6] (fS [0,1,5,6] [vS v12,vS substr,vI v13,vI y14]) [rB 66 [vS v12,vS substr] (vI y14)] H (by kernel_rfl) ⟨((strings_Index_ok _ _ _ hy14).b),trivial⟩ fun _ _ H16 hb => ?_
  replace hS:=hS.below hb
  clear H hb
  apply w_seq
  refine s_reg [] [0,1,5,6,24] (fS [0,1,5,6,24] [vS v12,vS substr,vI v13,vI y14,vB (y14 == (-1))]) [] H16 (by kernel_rfl) trivial fun _ _ H18 hb => ?_
  replace hS:=hS.below hb
  clear H16 hb
  refine w_if H18 rfl (fun hc => ?c27) (fun hc => ?_)
  case c27 =>
   replace hm:=bT hc hm
   refine s_reg [] [4] [(4,[],vI v13)] [] H18 (by kernel_rfl) trivial fun _ _ H20 hb => ?_
   replace hS:=hS.below hb
   clear H18 hb
   apply w_ret
   obtain rfl:=someE hm
   exact retR1 H20 rfl rfl ⟨_,rfl,rfl,(hS.sel [] rfl)⟩
  replace hm:=bF hc hm
  apply w_skip
  refine s_reg [] [0,1,5,6] (fS [0,1,5,6] [vS v12,vS substr,vI (w64 (v13 + 1)),vI y14]) [] H18 (by kernel_rfl) trivial fun _ _ H22 hb => ?_
  replace hS:=hS.below hb
  clear H18 hb
  obtain ⟨ho23,hm⟩:=chkE hm
  obtain ⟨x24,hx24,hm⟩:=letE hm
  refine w_reg [] [0,1,5] (fS [0,1,5] [vS x24,vS substr,vI (w64 (v13 + 1))]) [fun _ => 0 ≤ (w64 (y14 + (ln substr))) ∧ (w64 (y14 + (ln substr))) ≤ ln v12] H22 (by subst hx24; kernel_rfl) ⟨ho23,trivial⟩ fun _ _ H26 hb => ?_
  replace hS:=hS.below hb
  clear H22 hb
  exact ⟨_,Nat.lt_succ_self _,x24,w64 (v13 + 1),hm,FrG.keep (ks:=[1,0,5]) H26 (by kernel_rfl),hS⟩
theorem strings_Count_ok  (m : Nat) (s : Str) (substr : Str) (r : Int) (hm : strings_Count m s substr = some r) : Ret Tryd.prog 41 ⟨[vS s,vS substr]⟩ (vI r):=retP_of (Tryd.call41 _) (fun w h => strings_Count_w F0 m   s substr r hm w h)

theorem strings_Lines_w  (M : Av) (s : Str) (r : Str) (hm : strings_Lines s = r) (w : World) (hS : S0 M [] w) : Calls Tryd.prog 42 ⟨[vS s]⟩ w (fun e w' => ∃ v,e = .returned v ∧ ∃ (b901 : Nat),v = .func (.func 67) ⟨[]⟩ ⟨[vP b901]⟩ ∧ SH M (fpl []) w [eB b901 [vS r]] w'):=by
 rw [strings_Lines] at hm
 have hS0 : SH M (fpl []) w [] w:=hS
 generalize hX : fpl [] = X at hS0 ⊢
 clear hS hX
 have hS:=hS0
 clear hS0
 refine calls_entryP Tryd.func42 rfl Tryd.ntmps42 rfl fun _ H => ?_
 apply w_seq
 apply wl_start
 have hd:=hS.hand [] [] rfl rfl
 refine m_stp [1] [] H rfl rfl rfl rfl (o_box [vS s] H hd rfl rfl) (fun _ => rfl) fun _ _ v H3 hq => ?_
 clear H hd
 obtain ⟨b1,rfl,hq⟩:=hq
 replace hS : SH M X w [eB b1 [vS s]] _:=hS.join [] [] rfl rfl hq
 clear hq
 refine wl_batch 1 2 [] [1] [(1,[],vP b1)] [] H3 (by decide) (by kernel_rfl) trivial fun _ _ H5 hb => ?_
 replace hS:=hS.below hb
 clear H3 hb
 apply wl_end rfl
 refine s_reg [] [2] [(2,[],.func (.func 67) ⟨[]⟩ ⟨[vP b1]⟩)] [] H5 (by kernel_rfl) trivial fun _ _ H7 hb => ?_
 replace hS:=hS.below hb
 clear H5 hb
 apply w_ret
 subst hm
 exact retR1 H7 rfl rfl ⟨_,rfl,b1,rfl,(hS.sel [0] rfl)⟩
theorem strings_Lines_ok  (s : Str) (r : Str) (hm : strings_Lines s = r) (M : Av) (w : World) (hS : S0 M [] w) : DoesX Tryd.prog 42 ⟨[vS s]⟩ w (fun v w' => ∃ (b901 : Nat),v = .func (.func 67) ⟨[]⟩ ⟨[vP b901]⟩ ∧ SH M (fpl []) w [eB b901 [vS r]] w'):=⟨Tryd.call42 _,strings_Lines_w M   s r hm w hS⟩

theorem lines67_v (v : Str) (hlv : v.length ≤ 1099511627776) : lines67_m v = some (lnT v,lnR v):=by
  have e : strings_IndexByte v 10 = nIndexByte v 10:=rfl
  unfold lines67_m
  show cond (decide (0 ≤ strings_IndexByte v 10)) _ _ = _
  rw [e]
  by_cases h : 0 ≤ nIndexByte v 10
  · rw [decide_eq_true h,cond_true]
    obtain ⟨a1,a2,a3,a4⟩:=ln_ix1 v hlv h
    rw [a3,a4]
    simp only [chk,lt,if_pos,a1,a2,and_self]
  · rw [decide_eq_false h,cond_false]
    obtain ⟨a1,a2⟩:=ln_ix0 v (by omega)
    rw [a1,a2]
theorem lines67 (s : Str) (bs : Nat) (w : World) (hlen : ln s ≤ 1099511627776) : SeqJ Tryd.prog 67 [vP bs] (fun kR => [vS (lnT (lnK s kR))]) (lnN s) bs (fun p => [vS (lnK s p)]) w:=by
  intro lr J Jx W hJB hJb hJx hmv hY h0
  refine calls_entryW Tryd.func67 rfl Tryd.ntmps67 rfl fun _ H => ?_
  refine r_block ?_
  refine r_loop (fun q a W => ∃ k : Nat,k + q = lnN s ∧ J k k W ∧ Fr 25 (fS [0,1] [.func (.yield lr) ⟨[]⟩ ⟨[]⟩,vP bs]) a) ⟨lnN s,0,Nat.zero_add _,h0,H⟩ ?_
  clear H h0
  rintro q _ W2 ⟨kR,hq,hJ,H⟩
  have hr:=hJB _ _ _ hJ
  refine r_seq ?_
  refine sr_reg [vS (lnK s kR)] [0,1,7] (fS [0,1,7] [.func (.yield lr) ⟨[]⟩ ⟨[]⟩,vP bs,vB (decide (0 < ln (lnK s kR)))]) [rA bs 0 (vS (lnK s kR))] H (by kernel_rfl) (by kernel_rfl) ⟨hr.at1 rfl,trivial⟩ fun _ W3 H hb => ?_
  replace hJ:=hJb _ _ _ _ hJ hb
  clear hb hr
  refine r_if H rfl (fun hc => ?_) (fun hc => ?_)
  · refine r_skip ?_
    have hk : kR < lnN s:=lnK_nz s kR (by intro e; rw [e] at hc; cases hc)
    obtain ⟨v,hv⟩ : ∃ v,v = lnK s kR:=⟨_,rfl⟩
    have hlv : v.length ≤ 1099511627776:=by
      have:=lnK_len s kR
      subst hv
      unfold ln at hlen
      omega
    refine r_block ?_
    refine sr_reg [] [0,1] (fS [0,1] [.func (.yield lr) ⟨[]⟩ ⟨[]⟩,vP bs]) [] H (by kernel_rfl) (by kernel_rfl) trivial fun _ W4 H hb => ?_
    replace hJ:=hJb _ _ _ _ hJ hb
    clear hb
    have hr : Blk W4 bs [vS v]:=by rw [hv]; exact hJB _ _ _ hJ
    refine r_cut (fun a' w' => Fr 25 (fS [0,1,3] [.func (.yield lr) ⟨[]⟩ ⟨[]⟩,vP bs,vS (lnT v)]) a' ∧ Kp [bs] W4 w' ∧ Blk w' bs [vS (lnR v)]) ?_ ?_
    · refine (wpIn_wide (n:=0)).2 ?_
      have hm:=lines67_v v hlv
      unfold lines67_m at hm
      have hS : SH F0 [bs] W4 [eB bs [vS v]] W4:=blk_sh hr
      refine s_reg [(vS v),(vI (strings_IndexByte v 10))] [0,1,4] (fS [0,1,4] [.func (.yield lr) ⟨[]⟩ ⟨[]⟩,vP bs,vI (strings_IndexByte v 10)]) [rA bs 0 (vS v),rB 68 [vS v,vU 10] (vI (strings_IndexByte v 10))] H (by kernel_rfl) ⟨((hS.bk 0 rfl).at1 rfl),((strings_IndexByte_ok _ _).b),trivial⟩ fun _ _ H2 hb => ?_
      replace hS:=hS.below hb
      clear H hb
      refine s_reg [] [0,1,4,11] (fS [0,1,4,11] [.func (.yield lr) ⟨[]⟩ ⟨[]⟩,vP bs,vI (strings_IndexByte v 10),vB (decide (0 ≤ (strings_IndexByte v 10)))]) [] H2 (by kernel_rfl) trivial fun _ _ H4 hb => ?_
      replace hS:=hS.below hb
      clear H2 hb
      refine w_if H4 rfl (fun hc => ?_) (fun hc => ?c16)
      case c16 =>
       replace hm:=bF hc hm
       apply wl_start
       refine wl_batch 0 2 [(vS v)] [0,1,3] (fS [0,1,3] [.func (.yield lr) ⟨[]⟩ ⟨[]⟩,vP bs,vS v]) [rA bs 0 (vS v)] H4 (by decide) (by kernel_rfl) ⟨((hS.bk 0 rfl).at1 rfl),trivial⟩ fun _ _ H13 hb => ?_
       replace hS:=hS.below hb
       clear H4 hb
       have hd:=hS.hand [0] [] rfl rfl
       refine m_stp0 [0,1,3] (fS [0,1,3] [.func (.yield lr) ⟨[]⟩ ⟨[]⟩,vP bs,vS v]) H13 rfl rfl rfl (o_store [vN] H13 hd rfl rfl (by kernel_rfl) rfl rfl rfl) rfl fun _ _ H15 hq => ?_
       clear H13 hd
       obtain ⟨_,hq⟩:=hq
       replace hS : SH F0 [bs] W4 [eB bs [vN]] _:=hS.join [0] [] rfl rfl hq
       clear hq
       apply wl_end rfl
       have hm:=someE hm
       have e1 : v = lnT v:=congrArg Prod.fst hm
       have e2 : [] = lnR v:=congrArg Prod.snd hm
       refine ⟨by rw [← e1]; exact FrG.keep (ks:=[0,1,3]) H15 (by kernel_rfl),hS.kp,by rw [← e2]; exact hS.bk 0 rfl⟩
      replace hm:=bT hc hm
      obtain ⟨ho6,hm⟩:=chkE hm
      obtain ⟨x7,hx7,hm⟩:=letE hm
      obtain ⟨x8,hx8,hm⟩:=letE hm
      refine w_drawS (base:=(fS [0,1,4] [.func (.yield lr) ⟨[]⟩ ⟨[]⟩,vP bs,vI (strings_IndexByte v 10)])) (L:=[eB bs [vS v]]) 10 1 (fun yg5 => [vS v,vI (strings_IndexByte v 10),vI (w64 ((strings_IndexByte v 10) + 1)),vS x7,vS v,vI (strings_IndexByte v 10),vI (w64 ((strings_IndexByte v 10) + 1)),vS x8,vS x7,undef]) (fun yg5 => [[],[],[],[],[],[],[],[],[],[eB bs [vS x8]]]) [[10],[],[],[],[10],[],[],[],[],[10]] [[],[],[],[],[],[],[],[],[],[10]] [[0],[1],[1,2],[0,1,2,3],[4],[5],[5,6],[4,5,6,7],[0,1,2,3,8],[4,5,6,7,9]] [] (FrG.keep (ks:=[0,1,4]) H4 (by kernel_rfl)) (fun _ _ h => by cases h) (by kernel_rfl) hS (by kernel_rfl) rfl rfl (by kernel_rfl) (by kernel_rfl) (by kernel_rfl) (gd_none (by kernel_rfl) _ _) ?hloc_yg5 ?hstep_yg5 fun _ _ yg5 H10 hv hS => ?hK_yg5
      case hloc_yg5 => exact ⟨(fun _ _ _ _ => ⟨rfl,rfl⟩),(fun _ _ _ _ => ⟨rfl,rfl⟩),(fun _ _ _ _ => ⟨rfl,rfl⟩),(fun _ _ _ _ => ⟨rfl,rfl⟩),(fun _ _ _ _ => ⟨rfl,rfl⟩),(fun _ _ _ _ => ⟨rfl,rfl⟩),(fun _ _ _ _ => ⟨rfl,rfl⟩),(fun _ _ _ _ => ⟨rfl,rfl⟩),(fun _ _ _ _ => ⟨rfl,rfl⟩),(fun _ _ _ _ => ⟨rfl,rfl⟩),trivial⟩
      case hstep_yg5 =>
       refine ⟨?_,?_,?_,?_,?_,?_,?_,?_,?_,?_,trivial⟩
       ·intro o ho a w yg5 M Hb hv hO hS
        obtain rfl:=someE ho
        exact Stp.mono (o_evs [(vS v)] (vS v) (some (rA bs 0 (vS v))) [] Hb rfl (by kernel_rfl) (fun q e => by cases e; exact ((hS.bk 0 rfl).at1 rfl))) fun _ _ hq => ⟨gL [],fun _ _ => hq.1,(hS.below hq.2.below).sel [0] rfl⟩
       ·intro o ho a w yg5 M Hb hv hO hS
        obtain rfl:=someE ho
        exact Stp.mono (o_evs [] (vI (strings_IndexByte v 10)) none [] Hb rfl (by kernel_rfl) (fun q e => by cases e)) fun _ _ hq => ⟨gL [],fun _ _ => hq.1,(hS.below hq.2.below).sel [] rfl⟩
       ·intro o ho a w yg5 M Hb hv hO hS
        obtain rfl:=someE ho
        exact Stp.mono (o_evs [] (vI (w64 ((strings_IndexByte v 10) + 1))) none [] ((Hb).add (hv 1 (by decide) (by decide) 13 rfl)) rfl (by kernel_rfl) (fun q e => by cases e)) fun _ _ hq => ⟨gL [],fun _ _ => hq.1,(hS.below hq.2.below).sel [] rfl⟩
       ·intro o ho a w yg5 M Hb hv hO hS
        obtain rfl:=someE ho
        exact Stp.mono (o_evs [] (vS x7) (some (fun _ => 0 ≤ (w64 ((strings_IndexByte v 10) + 1)) ∧ (w64 ((strings_IndexByte v 10) + 1)) ≤ ln v)) [] (((Hb).add (hv 0 (by decide) (by decide) 12 rfl)).add (hv 2 (by decide) (by decide) 14 rfl)) rfl (by subst hx7; kernel_rfl) (fun q e => by cases e; exact ho6)) fun _ _ hq => ⟨gL [],fun _ _ => hq.1,(hS.below hq.2.below).sel [] rfl⟩
       ·intro o ho a w yg5 M Hb hv hO hS
        obtain rfl:=someE ho
        exact Stp.mono (o_evs [(vS v)] (vS v) (some (rA bs 0 (vS v))) [] Hb rfl (by kernel_rfl) (fun q e => by cases e; exact ((hS.bk 0 rfl).at1 rfl))) fun _ _ hq => ⟨gL [],fun _ _ => hq.1,(hS.below hq.2.below).sel [0] rfl⟩
       ·intro o ho a w yg5 M Hb hv hO hS
        obtain rfl:=someE ho
        exact Stp.mono (o_evs [] (vI (strings_IndexByte v 10)) none [] Hb rfl (by kernel_rfl) (fun q e => by cases e)) fun _ _ hq => ⟨gL [],fun _ _ => hq.1,(hS.below hq.2.below).sel [] rfl⟩
       ·intro o ho a w yg5 M Hb hv hO hS
        obtain rfl:=someE ho
        exact Stp.mono (o_evs [] (vI (w64 ((strings_IndexByte v 10) + 1))) none [] ((Hb).add (hv 5 (by decide) (by decide) 17 rfl)) rfl (by kernel_rfl) (fun q e => by cases e)) fun _ _ hq => ⟨gL [],fun _ _ => hq.1,(hS.below hq.2.below).sel [] rfl⟩
       ·intro o ho a w yg5 M Hb hv hO hS
        obtain rfl:=someE ho
        exact Stp.mono (o_evs [] (vS x8) (some (fun _ => 0 ≤ (w64 ((strings_IndexByte v 10) + 1)) ∧ (w64 ((strings_IndexByte v 10) + 1)) ≤ ln v)) [] (((Hb).add (hv 4 (by decide) (by decide) 16 rfl)).add (hv 6 (by decide) (by decide) 18 rfl)) rfl (by subst hx8; kernel_rfl) (fun q e => by cases e; exact ho6)) fun _ _ hq => ⟨gL [],fun _ _ => hq.1,(hS.below hq.2.below).sel [] rfl⟩
       ·intro o ho a w yg5 M Hb hv hO hS
        obtain rfl:=someE ho
        exact Stp.mono (o_evs [] (vS x7) none [] ((Hb).add (hv 3 (by decide) (by decide) 15 rfl)) rfl (by kernel_rfl) (fun q e => by cases e)) fun _ _ hq => ⟨gL [],fun _ _ => hq.1,(hS.below hq.2.below).sel [] rfl⟩
       ·intro o ho a w yg5 M Hb hv hO hS0
        obtain rfl:=someE ho
        have H : Fr 25 ([(19,[],vS x8)] ++ (fS [0,1,4] [.func (.yield lr) ⟨[]⟩ ⟨[]⟩,vP bs,vI (strings_IndexByte v 10)])) _:=(Hb).add (hv 7 (by decide) (by decide) 19 rfl)
        obtain ⟨X,hX⟩ : ∃ X,X = fpl [eB bs [vS v]]:=⟨_,rfl⟩
        have hS : SH M X w [eB bs [vS v]] w:=by rw [hX]; exact hS0
        have hd:=hS.hand [0] [] rfl rfl
        refine Stp.mono (o_store [vS x8] H hd rfl rfl (by kernel_rfl) rfl rfl rfl) ?_
        rintro v w2 hq
        replace hS : SH M X w [eB bs [vS x8]] _:=hS.join [0] [] rfl rfl hq
        clear hq
        rw [hX] at hS
        exact ⟨gL [],(fun _ h => by cases h),hS.sel [0] rfl⟩
      have H11 : Fr 25 (fS [3,0,1] [vS x7,.func (.yield lr) ⟨[]⟩ ⟨[]⟩,vP bs]) _:=(FrG.add (FrG.keep (ks:=[0,1]) H10 (by kernel_rfl)) (hv 8 3 rfl))
      replace hS : SH F0 [bs] W4 [eB bs [vS x8]] _:=hS
      clear hv H10
      have hm:=someE hm
      have e1 : x7 = lnT v:=congrArg Prod.fst hm
      have e2 : x8 = lnR v:=congrArg Prod.snd hm
      refine ⟨by rw [← e1]; exact FrG.keep (ks:=[0,1,3]) H11 (by kernel_rfl),hS.kp,by rw [← e2]; exact hS.bk 0 rfl⟩
    · rintro _ W5 ⟨H,hkp,hbl⟩
      replace hJ : J kR (kR + 1) W5:=hmv _ _ (kR + 1) _ _ hJ hkp (by subst hv; exact hbl)
      clear hkp hbl
      refine r_seq ?_
      refine rl_reg ?_
      refine rl_batch 0 2 [] [0,1,21,22] (fS [0,1,21,22] [.func (.yield lr) ⟨[]⟩ ⟨[]⟩,vP bs,.func (.yield lr) ⟨[]⟩ ⟨[]⟩,vS (lnT v)]) [] H (by kernel_rfl) (by decide) (by kernel_rfl) trivial fun _ W6 H hb => ?_
      replace hJ:=hJb _ _ _ _ hJ hb
      clear hb
      have hy : YieldAt (FW none) 0 Tryd.prog lr ⟨[vS (lnT v)]⟩ W6 (fun e B => (e = .returned (vT) ∧ J (kR + 1) (kR + 1) B) ∨ (e = .returned (vF) ∧ Jx B)):=by subst hv; exact hY kR W6 hk hJ
      refine y_call [23,0,1] (fS [0,1] [.func (.yield lr) ⟨[]⟩ ⟨[]⟩,vP bs]) _ H rfl rfl rfl rfl (fun _ => rfl) hy ?_
      clear H
      rintro e W7 (⟨rfl,hJ7⟩ | ⟨rfl,hJ7⟩)
      · refine ⟨_,rfl,fun _ H => ?_⟩
        refine rl_batch 3 4 [] [0,1,24] (fS [0,1,24] [.func (.yield lr) ⟨[]⟩ ⟨[]⟩,vP bs,vF]) [] H (by kernel_rfl) (by decide) (by kernel_rfl) trivial fun _ W8 H hb => ?_
        replace hJ7:=hJb _ _ _ _ hJ7 hb
        clear hb
        refine rl_end rfl ?_
        refine r_if H rfl (fun hc => by cases hc) (fun _ => ?_)
        refine r_skip ?_
        exact ⟨q - 1,by omega,kR + 1,by omega,hJ7,FrG.keep (ks:=[0,1]) H (by kernel_rfl)⟩
      · refine ⟨_,rfl,fun _ H => ?_⟩
        refine rl_batch 3 4 [] [0,1,24] (fS [0,1,24] [.func (.yield lr) ⟨[]⟩ ⟨[]⟩,vP bs,vT]) [] H (by kernel_rfl) (by decide) (by kernel_rfl) trivial fun _ W8 H hb => ?_
        replace hJ7:=hJx _ _ hJ7 hb
        clear hb
        refine rl_end rfl ?_
        refine r_if H rfl (fun _ => ?_) (fun hc => by cases hc)
        refine r_ret ?_
        exact retR0 H rfl ⟨⟨_,rfl⟩,.inr hJ7⟩
  · have hk : kR = lnN s:=by
      rcases Nat.lt_or_ge kR (lnN s) with h | h
      · have:=lnK_pos s kR h
        rw [this] at hc
        cases hc
      · omega
    refine r_exit rfl ?_
    dsimp only
    subst hk
    exact retR0 H rfl ⟨⟨_,rfl⟩,.inl hJ⟩
theorem stringslite_TrimSuffix_w  (M : Av) (s : Str) (suffix : Str) (r : Str) (hm : stringslite_TrimSuffix s suffix = some r) (w : World) (hS : S0 M [] w) : Calls Tryd.prog 69 ⟨[vS s,vS suffix]⟩ w (fun e w' => ∃ v,e = .returned v ∧ v = vS r ∧ SH M (fpl []) w [] w'):=by
 rw [stringslite_TrimSuffix] at hm
 have hS0 : SH M (fpl []) w [] w:=hS
 generalize hX : fpl [] = X at hS0 ⊢
 clear hS hX
 have hS:=hS0
 clear hS0
 refine calls_entryP Tryd.func69 rfl Tryd.ntmps69 rfl fun _ H => ?_
 refine s_reg [] [0,1] (fS [0,1] [vS s,vS suffix]) [] H (by kernel_rfl) trivial fun _ _ H2 hb => ?_
 replace hS:=hS.below hb
 clear H hb
 apply w_seq
 obtain ⟨y3,hy3,hm⟩:=bindE hm
 refine s_reg [(vB y3)] [0,1,7] (fS [0,1,7] [vS s,vS suffix,vB y3]) [rB 63 [vS s,vS suffix] (vB y3)] H2 (by kernel_rfl) ⟨((stringslite_HasSuffix_ok _ _ _ hy3).b),trivial⟩ fun _ _ H5 hb => ?_
 replace hS:=hS.below hb
 clear H2 hb
 refine w_if H5 rfl (fun hc => ?_) (fun hc => ?c11)
 case c11 =>
  replace hm:=bF hc hm
  apply w_skip
  refine s_reg [] [4] [(4,[],vS s)] [] H5 (by kernel_rfl) trivial fun _ _ H10 hb => ?_
  replace hS:=hS.below hb
  clear H5 hb
  apply w_ret
  obtain rfl:=someE hm
  exact retR1 H10 rfl rfl ⟨_,rfl,rfl,(hS.sel [] rfl)⟩
 replace hm:=bT hc hm
 obtain ⟨ho6,hm⟩:=chkE hm
 refine s_reg [] [4] [(4,[],vS (sub s 0 (w64 ((ln s) - (ln suffix)))))] [fun _ => 0 ≤ (w64 ((ln s) - (ln suffix))) ∧ (w64 ((ln s) - (ln suffix))) ≤ ln s] H5 (by kernel_rfl) ⟨ho6,trivial⟩ fun _ _ H8 hb => ?_
 replace hS:=hS.below hb
 clear H5 hb
 apply w_ret
 obtain rfl:=someE hm
 exact retR1 H8 rfl rfl ⟨_,rfl,rfl,(hS.sel [] rfl)⟩
theorem stringslite_TrimSuffix_ok  (s : Str) (suffix : Str) (r : Str) (hm : stringslite_TrimSuffix s suffix = some r) : Ret Tryd.prog 69 ⟨[vS s,vS suffix]⟩ (vS r):=retP_of (Tryd.call69 _) (fun w h => stringslite_TrimSuffix_w F0   s suffix r hm w h)

theorem strings_TrimSuffix_w  (M : Av) (s : Str) (suffix : Str) (r : Str) (hm : strings_TrimSuffix s suffix = some r) (w : World) (hS : S0 M [] w) : Calls Tryd.prog 43 ⟨[vS s,vS suffix]⟩ w (fun e w' => ∃ v,e = .returned v ∧ v = vS r ∧ SH M (fpl []) w [] w'):=by
 rw [strings_TrimSuffix] at hm
 have hS0 : SH M (fpl []) w [] w:=hS
 generalize hX : fpl [] = X at hS0 ⊢
 clear hS hX
 have hS:=hS0
 clear hS0
 refine calls_entryP Tryd.func43 rfl Tryd.ntmps43 rfl fun _ H => ?_
 refine s_reg [] [0,1] (fS [0,1] [vS s,vS suffix]) [] H (by kernel_rfl) trivial fun _ _ H2 hb => ?_
 replace hS:=hS.below hb
 clear H hb
 obtain ⟨y3,hy3,hm⟩:=bindE hm
 refine s_reg [(vS y3)] [4] [(4,[],vS y3)] [rB 69 [vS s,vS suffix] (vS y3)] H2 (by kernel_rfl) ⟨((stringslite_TrimSuffix_ok _ _ _ hy3).b),trivial⟩ fun _ _ H5 hb => ?_
 replace hS:=hS.below hb
 clear H2 hb
 apply w_ret
 obtain rfl:=someE hm
 exact retR1 H5 rfl rfl ⟨_,rfl,rfl,(hS.sel [] rfl)⟩
theorem strings_TrimSuffix_ok  (s : Str) (suffix : Str) (r : Str) (hm : strings_TrimSuffix s suffix = some r) : Ret Tryd.prog 43 ⟨[vS s,vS suffix]⟩ (vS r):=retP_of (Tryd.call43 _) (fun w h => strings_TrimSuffix_w F0   s suffix r hm w h)

theorem nc_tyAnswer : TyNc tyAnswer:=⟨by decide,fun _ _ _ _ h => tyAnswer_mk (SlG.nc nc_S (tyAnswer_i0 h)) (SlG.nc (nc_I _) (tyAnswer_i1 h))⟩
theorem answer_ReadText_w  (M : Av) (m : Nat) (s : Str) (r : (List TAnswer) × Int) (hm : answer_ReadText m s = some r) (w : World) (hS : S0 M [Ent.gifc 2,Ent.gifc 3,Ent.tab 1 (Lib.pow10Tab.map fun z => Value.int .u64 z)] w) : Calls Tryd.prog 22 ⟨[vS s]⟩ w (fun e w' => ∃ v,e = .returned v ∧ ∃ (g901 : Gh),v = vW [vL g901 r.1,vI r.2] ∧ SH M (fpl [Ent.gifc 2,Ent.gifc 3,Ent.tab 1 (Lib.pow10Tab.map fun z => Value.int .u64 z)]) w [eO 26 tyAnswer r.1 g901] w'):=by
 rw [answer_ReadText] at hm
 have hS0 : SH M (fpl [Ent.gifc 2,Ent.gifc 3,Ent.tab 1 (Lib.pow10Tab.map fun z => Value.int .u64 z)]) w [Ent.gifc 2,Ent.gifc 3,Ent.tab 1 (Lib.pow10Tab.map fun z => Value.int .u64 z)] w:=hS
 generalize hX : fpl [Ent.gifc 2,Ent.gifc 3,Ent.tab 1 (Lib.pow10Tab.map fun z => Value.int .u64 z)] = X at hS0 ⊢
 clear hS hX
 have hS:=hS0
 clear hS0
 refine calls_entryM Tryd.func22 rfl Tryd.ntmps22 rfl fun _ H => ?_
 apply w_seq
 apply wl_start
 have hd:=hS.hand [] [0,1,2] rfl rfl
 refine m_stp [2,0] [(0,[],vS s)] H rfl rfl rfl rfl (o_alloc [vO] (z:=vO) hd (by kernel_rfl) rfl) (fun _ => rfl) fun _ _ v H3 hq => ?_
 clear H hd
 obtain ⟨b1,rfl,hq⟩:=hq
 replace hS : SH M X w [eB b1 [vO],Ent.gifc 2,Ent.gifc 3,Ent.tab 1 (Lib.pow10Tab.map fun z => Value.int .u64 z)] _:=hS.join [] [0,1,2] rfl rfl hq
 clear hq
 have hd:=hS.hand [] [0,1,2,3] rfl rfl
 refine m_stp [3,0,2] (fS [0,2] [vS s,vP b1]) H3 rfl rfl rfl rfl (o_alloc [vI 0] (z:=vI 0) hd (by kernel_rfl) rfl) (fun _ => rfl) fun _ _ v H6 hq => ?_
 clear H3 hd
 obtain ⟨b4,rfl,hq⟩:=hq
 replace hS : SH M X w [eB b4 [vI 0],eB b1 [vO],Ent.gifc 2,Ent.gifc 3,Ent.tab 1 (Lib.pow10Tab.map fun z => Value.int .u64 z)] _:=hS.join [] [0,1,2,3] rfl rfl hq
 clear hq
 apply wl_end rfl
 apply w_seq
 refine s_reg [] [0,2,3,10] (fS [0,2,3,10] [vS s,vP b1,vP b4,vB (decide (5400000 < (ln s)))]) [] H6 (by kernel_rfl) trivial fun _ _ H8 hb => ?_
 replace hS:=hS.below hb
 clear H6 hb
 refine w_if H8 rfl (fun hc => ?c88) (fun hc => ?_)
 case c88 =>
  replace hm:=bT hc hm
  apply w_seq
  apply wl_start
  have hd:=hS.hand [1] [0,2,3,4] rfl rfl
  refine m_stp0 [2,3] (fS [2,3] [vP b1,vP b4]) H8 rfl rfl rfl (o_store [vO] H8 hd rfl rfl (by kernel_rfl) rfl rfl rfl) rfl fun _ _ H10 hq => ?_
  clear H8 hd
  obtain ⟨_,hq⟩:=hq
  replace hS : SH M X w [eB b1 [vO],eB b4 [vI 0],Ent.gifc 2,Ent.gifc 3,Ent.tab 1 (Lib.pow10Tab.map fun z => Value.int .u64 z)] _:=hS.join [1] [0,2,3,4] rfl rfl hq
  clear hq
  have hd:=hS.hand [1] [0,2,3,4] rfl rfl
  refine m_stp0 [2,3] (fS [2,3] [vP b1,vP b4]) H10 rfl rfl rfl (o_store [vI 28] H10 hd rfl rfl (by kernel_rfl) rfl rfl rfl) rfl fun _ _ H12 hq => ?_
  clear H10 hd
  obtain ⟨_,hq⟩:=hq
  replace hS : SH M X w [eB b4 [vI 28],eB b1 [vO],Ent.gifc 2,Ent.gifc 3,Ent.tab 1 (Lib.pow10Tab.map fun z => Value.int .u64 z)] _:=hS.join [1] [0,2,3,4] rfl rfl hq
  clear hq
  apply wl_end rfl
  apply w_ret
  obtain rfl:=someE hm
  replace hS : SH M X w [eO 26 tyAnswer ([] : List TAnswer) (.nil),eB b4 [vI 28],eB b1 [vO],Ent.gifc 2,Ent.gifc 3,Ent.tab 1 (Lib.pow10Tab.map fun z => Value.int .u64 z)] _:=hS.addNil 26 tyAnswer
  refine RpM.of ?_
  exact retR2 H12 rfl (oneRes_one rfl (hS.bk 2 rfl) Tryd.underlying41 rfl) (oneRes_one rfl (hS.bk 1 rfl) Tryd.underlying22 rfl) ⟨_,rfl,Gh.nil,rfl,(hS.sel [0] rfl)⟩
 replace hm:=bF hc hm
 apply w_skip
 apply w_seq
 obtain ⟨y14,hy14,hm⟩:=bindE hm
 obtain ⟨y15,hy15,hm⟩:=bindE hm
 obtain ⟨x16,hx16,hm⟩:=letE hm
 refine s_reg [(vB y14),(vI y15)] [0,2,3,22] (fS [0,2,3,22] [vS s,vP b1,vP b4,vB x16]) [fun wz => ((!(s == [])) = true ∧ True → RetB Tryd.prog 40 ⟨[vS s,vS [10]]⟩ (vB y14) wz),fun wz => ((cond (!(s == [])) (!y14) false) = false ∧ True → RetB Tryd.prog 41 ⟨[vS s,vS [10]]⟩ (vI y15) wz)] H8 (by subst hx16; kernel_rfl) ⟨fun hg => (strings_HasSuffix_ok _ _ _ (bT (hg.1) hy14)).b,fun hg => (strings_Count_ok m _ _ _ (bF (hg.1) hy15)).b,trivial⟩ fun _ _ H18 hb => ?_
 replace hS:=hS.below hb
 clear H8 hb
 refine w_if H18 rfl (fun hc => ?c87) (fun hc => ?_)
 case c87 =>
  replace hm:=bT hc hm
  apply w_seq
  apply wl_start
  have hd:=hS.hand [1] [0,2,3,4] rfl rfl
  refine m_stp0 [2,3] (fS [2,3] [vP b1,vP b4]) H18 rfl rfl rfl (o_store [vO] H18 hd rfl rfl (by kernel_rfl) rfl rfl rfl) rfl fun _ _ H20 hq => ?_
  clear H18 hd
  obtain ⟨_,hq⟩:=hq
  replace hS : SH M X w [eB b1 [vO],eB b4 [vI 0],Ent.gifc 2,Ent.gifc 3,Ent.tab 1 (Lib.pow10Tab.map fun z => Value.int .u64 z)] _:=hS.join [1] [0,2,3,4] rfl rfl hq
  clear hq
  have hd:=hS.hand [1] [0,2,3,4] rfl rfl
  refine m_stp0 [2,3] (fS [2,3] [vP b1,vP b4]) H20 rfl rfl rfl (o_store [vI 12] H20 hd rfl rfl (by kernel_rfl) rfl rfl rfl) rfl fun _ _ H22 hq => ?_
  clear H20 hd
  obtain ⟨_,hq⟩:=hq
  replace hS : SH M X w [eB b4 [vI 12],eB b1 [vO],Ent.gifc 2,Ent.gifc 3,Ent.tab 1 (Lib.pow10Tab.map fun z => Value.int .u64 z)] _:=hS.join [1] [0,2,3,4] rfl rfl hq
  clear hq
  apply wl_end rfl
  apply w_ret
  obtain rfl:=someE hm
  replace hS : SH M X w [eO 26 tyAnswer ([] : List TAnswer) (.nil),eB b4 [vI 12],eB b1 [vO],Ent.gifc 2,Ent.gifc 3,Ent.tab 1 (Lib.pow10Tab.map fun z => Value.int .u64 z)] _:=hS.addNil 26 tyAnswer
  refine RpM.of ?_
  exact retR2 H22 rfl (oneRes_one rfl (hS.bk 2 rfl) Tryd.underlying41 rfl) (oneRes_one rfl (hS.bk 1 rfl) Tryd.underlying22 rfl) ⟨_,rfl,Gh.nil,rfl,(hS.sel [0] rfl)⟩
 replace hm:=bF hc hm
 apply w_skip
 apply w_seq
 apply wl_start
 have hd:=hS.hand [] [0,1,2,3,4] rfl rfl
 refine m_stp [4,0,2,3] (fS [0,2,3] [vS s,vP b1,vP b4]) H18 rfl rfl rfl rfl (o_alloc [vO] (z:=vO) hd (by kernel_rfl) rfl) (fun _ => rfl) fun _ _ v H26 hq => ?_
 clear H18 hd
 obtain ⟨b24,rfl,hq⟩:=hq
 replace hS : SH M X w [eB b24 [vO],eB b4 [vI 0],eB b1 [vO],Ent.gifc 2,Ent.gifc 3,Ent.tab 1 (Lib.pow10Tab.map fun z => Value.int .u64 z)] _:=hS.join [] [0,1,2,3,4] rfl rfl hq
 clear hq
 apply wl_end rfl
 apply w_seq
 apply w_seq
 apply wl_start
 refine wl_batch 0 1 [] [2,3,4,23] (fS [2,3,4,23] [vP b1,vP b4,vP b24,vS s]) [] H26 (by decide) (by kernel_rfl) trivial fun _ _ H28 hb => ?_
 replace hS:=hS.below hb
 clear H26 hb
 obtain ⟨y29,hy29,hm⟩:=letE hm
 have hd:=hS.hand [] [0,1,2,3,4,5] rfl rfl
 refine m_stp [24,2,3,4] (fS [2,3,4] [vP b1,vP b4,vP b24]) H28 rfl rfl rfl rfl (o_callx H28 rfl rfl (strings_Lines_ok _ _ hy29.symm _ _ hd)) (fun _ => rfl) fun _ _ v H32 hq => ?_
 clear H28 hd
 obtain ⟨b30,rfl,hq⟩:=hq
 replace hS : SH M X w [eB b30 [vS y29],eB b24 [vO],eB b4 [vI 0],eB b1 [vO],Ent.gifc 2,Ent.gifc 3,Ent.tab 1 (Lib.pow10Tab.map fun z => Value.int .u64 z)] _:=hS.join [] [0,1,2,3,4,5] rfl rfl hq
 clear hq
 apply wl_end rfl
 apply w_block
 replace hS : SH M X w [eO 26 tyAnswer ([] : List TAnswer) (.nil),eB b30 [vS y29],eB b24 [vO],eB b4 [vI 0],eB b1 [vO],Ent.gifc 2,Ent.gifc 3,Ent.tab 1 (Lib.pow10Tab.map fun z => Value.int .u64 z)] _:=hS.addNil 26 tyAnswer
 replace hS : SH M X w [eB b30 [vS y29],eO 26 tyAnswer ([] : List TAnswer) (.nil),eB b24 [.slice Gh.nil.a (([] : List TAnswer).length) Gh.nil.c],eB b4 [vI 0],eB b1 [vO],Ent.gifc 2,Ent.gifc 3,Ent.tab 1 (Lib.pow10Tab.map fun z => Value.int .u64 z)] _:=hS.sel [1,0,2,3,4,5,6,7] rfl
 obtain ⟨ho86,hm⟩:=chkE hm
 refine w_rangeJ (fr:=(fS [2,3,4,24] [vP b1,vP b4,vP b24,.func (.func 67) ⟨[]⟩ ⟨[vP b30]⟩])) (fun kR (sR : (List TAnswer) × Gh) => ∃ kk,answer_ReadText_L1 m  kk (lnK y29 kR) sR.1 = some r) (fun p (sR : (List TAnswer) × Gh) => [eB b30 [vS (lnK y29 p)],eO 26 tyAnswer sR.1 sR.2,eB b24 [.slice sR.2.a sR.1.length sR.2.c],eB b4 [vI 0],eB b1 [vO],Ent.gifc 2,Ent.gifc 3,Ent.tab 1 (Lib.pow10Tab.map fun z => Value.int .u64 z)]) (fun (yR : Int) => ([],yR) = r) (fun yR => [eB b1 [vO],eB b4 [vI yR]]) (fun kR => (fS [25,2,3,4,24] [vS (lnT (lnK y29 kR)),vP b1,vP b4,vP b24,.func (.func 67) ⟨[]⟩ ⟨[vP b30]⟩])) (fun kR (sR : (List TAnswer) × Gh) (dR : Unit) => (fS [2,3,4,5] [vP b1,vP b4,vP b24,vS (lnT (lnK y29 kR))])) (fun kR (sR : (List TAnswer) × Gh) dR => [eB b30 [vS (lnR (lnK y29 kR))],eO 26 tyAnswer sR.1 sR.2,eB b24 [.slice sR.2.a sR.1.length sR.2.c],eB b4 [vI 0],eB b1 [vO],Ent.gifc 2,Ent.gifc 3,Ent.tab 1 (Lib.pow10Tab.map fun z => Value.int .u64 z)]) 67 [vP b30] (fun kR => [vS (lnT (lnK y29 kR))]) (lnN y29) b30 (fun p => [vS (lnK y29 p)]) (FrG.keep (ks:=[2,3,4,24]) H32 (by kernel_rfl)) (by kernel_rfl) (fun args => Tryd.call67 args) (([] : List TAnswer),Gh.nil) ⟨m,?h0_1⟩ hS (fun _ _ => ⟨nc_blk _ _,⟨nc_own nc_tyAnswer _ _ _,⟨nc_blk _ _,⟨nc_blk _ _,⟨nc_blk _ _,⟨nc_gifc _,⟨nc_gifc _,⟨nc_tab _ _,trivial⟩⟩⟩⟩⟩⟩⟩⟩) (fun _ _ _ => ⟨nc_blk _ _,⟨nc_own nc_tyAnswer _ _ _,⟨nc_blk _ _,⟨nc_blk _ _,⟨nc_blk _ _,⟨nc_gifc _,⟨nc_gifc _,⟨nc_tab _ _,trivial⟩⟩⟩⟩⟩⟩⟩⟩) (fun _ => ⟨nc_blk _ _,⟨nc_blk _ _,trivial⟩⟩) (lines67 y29 b30 _ ho86) (fun _ => rfl) (fun _ _ _ hS => hS.bk 0 rfl) (fun _ _ => .head _) (fun _ _ _ _ _ hS hk hb => hS.move hk hb) (fun _ _ _ hd ht => fr_one (l:=(fS [2,3,4,24] [vP b1,vP b4,vP b24,.func (.func 67) ⟨[]⟩ ⟨[vP b30]⟩])) (FrG.keep (ks:=[2,3,4,24]) H32 (by kernel_rfl)) (by kernel_rfl) (by kernel_rfl) hd (ht.trans (zip_one _))) ?ha_1 ?hb_1 ?hn_1 ?hr_1
 case h0_1 => exact hm
 case ha_1 =>
  intro lR kR sR wR aR hk _ H hS
  obtain ⟨v35,g36⟩:=sR
  obtain ⟨v34,hvi⟩ : ∃ v,v = lnK y29 kR:=⟨_,rfl⟩
  replace H : Fr 39 (fS [25,2,3,4,24] [vS (lnT v34),vP b1,vP b4,vP b24,.func (.func 67) ⟨[]⟩ ⟨[vP b30]⟩]) aR:=by subst hvi; exact H
  replace hS : SH M (fpl [eB b30 [vS (lnR v34)],eO 26 tyAnswer v35 g36,eB b24 [vL g36 v35],eB b4 [vI 0],eB b1 [vO],Ent.gifc 2,Ent.gifc 3,Ent.tab 1 (Lib.pow10Tab.map fun z => Value.int .u64 z)]) wR [eB b30 [vS (lnR v34)],eO 26 tyAnswer v35 g36,eB b24 [vL g36 v35],eB b4 [vI 0],eB b1 [vO],Ent.gifc 2,Ent.gifc 3,Ent.tab 1 (Lib.pow10Tab.map fun z => Value.int .u64 z)] wR:=by subst hvi; exact hS
  show Code.wpIn _ _ _ _ (Qs (fun a1 W1 => ∃ dR : Unit,Fr 39 (fS [2,3,4,5] [vP b1,vP b4,vP b24,vS (lnT (lnK y29 kR))]) a1 ∧ SH M (fpl [eB b30 [vS (lnR (lnK y29 kR))],eO 26 tyAnswer v35 g36,eB b24 [vL g36 v35],eB b4 [vI 0],eB b1 [vO],Ent.gifc 2,Ent.gifc 3,Ent.tab 1 (Lib.pow10Tab.map fun z => Value.int .u64 z)]) wR [eB b30 [vS (lnR (lnK y29 kR))],eO 26 tyAnswer v35 g36,eB b24 [vL g36 v35],eB b4 [vI 0],eB b1 [vO],Ent.gifc 2,Ent.gifc 3,Ent.tab 1 (Lib.pow10Tab.map fun z => Value.int .u64 z)] W1) [] _) _ _
  rw [← hvi]
  refine r_reg [] [2,3,4,5] (fS [2,3,4,5] [vP b1,vP b4,vP b24,vS (lnT v34)]) [] H (by kernel_rfl) (by kernel_rfl) trivial fun _ _ H38 hb => ?_
  replace hS:=hS.below hb
  clear H hb
  exact ⟨(),FrG.keep (ks:=[2,3,4,5]) H38 (by kernel_rfl),hS⟩
 case hb_1 =>
  intro lR kR sR dR wR aR hk hC H hS
  obtain ⟨v35,g36⟩:=sR
  obtain ⟨v34,hvi⟩ : ∃ v,v = lnK y29 kR:=⟨_,rfl⟩
  obtain ⟨kk,hm⟩:=hC
  replace hm : answer_ReadText_L1 m  kk v34 v35 = some r:=by subst hvi; exact hm
  replace H : Fr 39 (fS [2,3,4,5] [vP b1,vP b4,vP b24,vS (lnT v34)]) aR:=by subst hvi; exact H
  replace hS : SH M (fpl [eB b30 [vS (lnR v34)],eO 26 tyAnswer v35 g36,eB b24 [vL g36 v35],eB b4 [vI 0],eB b1 [vO],Ent.gifc 2,Ent.gifc 3,Ent.tab 1 (Lib.pow10Tab.map fun z => Value.int .u64 z)]) wR [eB b30 [vS (lnR v34)],eO 26 tyAnswer v35 g36,eB b24 [vL g36 v35],eB b4 [vI 0],eB b1 [vO],Ent.gifc 2,Ent.gifc 3,Ent.tab 1 (Lib.pow10Tab.map fun z => Value.int .u64 z)] wR:=by subst hvi; exact hS
  have hpos : decide (0 < ln v34) = true:=by subst hvi; exact lnK_pos _ _ hk
  show Code.wpIn _ _ _ _ (Qs (fun _ W1 => ∃ sR : (List TAnswer) × Gh,(∃ kk,answer_ReadText_L1 m  kk (lnR (lnK y29 kR)) sR.1 = some r) ∧ SH M (fpl [eB b30 [vS (lnR (lnK y29 kR))],eO 26 tyAnswer v35 g36,eB b24 [vL g36 v35],eB b4 [vI 0],eB b1 [vO],Ent.gifc 2,Ent.gifc 3,Ent.tab 1 (Lib.pow10Tab.map fun z => Value.int .u64 z)]) wR [eB b30 [vS (lnR (lnK y29 kR))],eO 26 tyAnswer sR.1 sR.2,eB b24 [.slice sR.2.a sR.1.length sR.2.c],eB b4 [vI 0],eB b1 [vO],Ent.gifc 2,Ent.gifc 3,Ent.tab 1 (Lib.pow10Tab.map fun z => Value.int .u64 z)] W1) [] (fun _ W1 => ∃ yR : Int,([],yR) = r ∧ SH M (fpl [eB b30 [vS (lnR (lnK y29 kR))],eO 26 tyAnswer v35 g36,eB b24 [vL g36 v35],eB b4 [vI 0],eB b1 [vO],Ent.gifc 2,Ent.gifc 3,Ent.tab 1 (Lib.pow10Tab.map fun z => Value.int .u64 z)]) wR [eB b1 [vO],eB b4 [vI yR]] W1)) _ _
  rw [← hvi]
  clear hvi
  cases kk with
  | zero => exact noneE hm
  | succ kk =>
   rw [answer_ReadText_L1] at hm
   replace hm:=bT hpos hm
   refine r_block ?_
   refine r_seq ?_
   refine rl_start (by kernel_rfl) ?_
   obtain ⟨y39,hy39,hm⟩:=bindE hm
   refine wl_batch 0 2 [(vS y39)] [2,3,4,28] (fS [2,3,4,28] [vP b1,vP b4,vP b24,vS y39]) [rB 43 [vS (lnT v34),vS [10]] (vS y39)] H (by decide) (by kernel_rfl) ⟨((strings_TrimSuffix_ok _ _ _ hy39).b),trivial⟩ fun _ _ H41 hb => ?_
   replace hS:=hS.below hb
   clear H hb
   obtain ⟨y42,hy42,hm⟩:=bindE hm
   have hd:=hS.hand [5,6,7] [0,1,2,3,4,5,6,7] rfl rfl
   refine m_stp [29,2,3,4] (fS [2,3,4] [vP b1,vP b4,vP b24]) H41 rfl rfl rfl rfl (o_callx H41 rfl rfl (answer_ReadLine_ok m _ _ hy42 _ _ hd)) (fun _ => rfl) fun _ _ v H48 hq => ?_
   clear H41 hd
   obtain ⟨g43,g45,rfl,hq⟩:=hq
   replace hS : SH M (fpl [eB b30 [vS (lnR v34)],eO 26 tyAnswer v35 g36,eB b24 [vL g36 v35],eB b4 [vI 0],eB b1 [vO],Ent.gifc 2,Ent.gifc 3,Ent.tab 1 (Lib.pow10Tab.map fun z => Value.int .u64 z)]) wR [eI tS y42.1.Texts g43,eO 3 (tI .i64) y42.1.Numbers g45,eB b30 [vS (lnR v34)],eO 26 tyAnswer v35 g36,eB b24 [vL g36 v35],eB b4 [vI 0],eB b1 [vO],Ent.gifc 2,Ent.gifc 3,Ent.tab 1 (Lib.pow10Tab.map fun z => Value.int .u64 z)] _:=hS.join [5,6,7] [0,1,2,3,4,5,6,7] rfl rfl hq
   clear hq
   refine wl_batch 3 6 [] [2,3,4,30,31] (fS [2,3,4,30,31] [vP b1,vP b4,vP b24,vG [vI y42.1.Err,vI y42.1.Num,vL g43 y42.1.Texts,vL g45 y42.1.Numbers],vI y42.2]) [] H48 (by decide) (by kernel_rfl) trivial fun _ _ H50 hb => ?_
   replace hS:=hS.below hb
   clear H48 hb
   have hd:=hS.hand [] [0,1,2,3,4,5,6,7,8,9] rfl rfl
   refine m_stp [6,2,3,4,30,31] (fS [2,3,4,30,31] [vP b1,vP b4,vP b24,vG [vI y42.1.Err,vI y42.1.Num,vL g43 y42.1.Texts,vL g45 y42.1.Numbers],vI y42.2]) H50 rfl rfl rfl rfl (o_alloc [vI 0,vI 0,vO,vO] (z:=vG [vI 0,vI 0,vO,vO]) hd (by kernel_rfl) rfl) (fun _ => rfl) fun _ _ v H53 hq => ?_
   clear H50 hd
   obtain ⟨b51,rfl,hq⟩:=hq
   replace hS : SH M (fpl [eB b30 [vS (lnR v34)],eO 26 tyAnswer v35 g36,eB b24 [vL g36 v35],eB b4 [vI 0],eB b1 [vO],Ent.gifc 2,Ent.gifc 3,Ent.tab 1 (Lib.pow10Tab.map fun z => Value.int .u64 z)]) wR [eB b51 [vI 0,vI 0,vO,vO],eI tS y42.1.Texts g43,eO 3 (tI .i64) y42.1.Numbers g45,eB b30 [vS (lnR v34)],eO 26 tyAnswer v35 g36,eB b24 [vL g36 v35],eB b4 [vI 0],eB b1 [vO],Ent.gifc 2,Ent.gifc 3,Ent.tab 1 (Lib.pow10Tab.map fun z => Value.int .u64 z)] _:=hS.join [] [0,1,2,3,4,5,6,7,8,9] rfl rfl hq
   clear hq
   have hd:=hS.hand [0] [1,2,3,4,5,6,7,8,9,10] rfl rfl
   refine m_stp0 [2,3,4,6,31] (fS [2,3,4,6,31] [vP b1,vP b4,vP b24,vP b51,vI y42.2]) H53 rfl rfl rfl (o_store [vI y42.1.Err,vI y42.1.Num,vL g43 y42.1.Texts,vL g45 y42.1.Numbers] H53 hd rfl rfl (by kernel_rfl) rfl rfl rfl) rfl fun _ _ H55 hq => ?_
   clear H53 hd
   obtain ⟨_,hq⟩:=hq
   replace hS : SH M (fpl [eB b30 [vS (lnR v34)],eO 26 tyAnswer v35 g36,eB b24 [vL g36 v35],eB b4 [vI 0],eB b1 [vO],Ent.gifc 2,Ent.gifc 3,Ent.tab 1 (Lib.pow10Tab.map fun z => Value.int .u64 z)]) wR [eB b51 [vI y42.1.Err,vI y42.1.Num,vL g43 y42.1.Texts,vL g45 y42.1.Numbers],eI tS y42.1.Texts g43,eO 3 (tI .i64) y42.1.Numbers g45,eB b30 [vS (lnR v34)],eO 26 tyAnswer v35 g36,eB b24 [vL g36 v35],eB b4 [vI 0],eB b1 [vO],Ent.gifc 2,Ent.gifc 3,Ent.tab 1 (Lib.pow10Tab.map fun z => Value.int .u64 z)] _:=hS.join [0] [1,2,3,4,5,6,7,8,9,10] rfl rfl hq
   clear hq
   refine wl_batch 8 9 [] [2,3,4,6,7] (fS [2,3,4,6,7] [vP b1,vP b4,vP b24,vP b51,vI y42.2]) [] H55 (by decide) (by kernel_rfl) trivial fun _ _ H57 hb => ?_
   replace hS:=hS.below hb
   clear H55 hb
   apply wl_end rfl
   refine r_seq ?_
   refine sr_reg [] [2,3,4,6,33] (fS [2,3,4,6,33] [vP b1,vP b4,vP b24,vP b51,vB (y42.2 != 0)]) [] H57 (by kernel_rfl) (by kernel_rfl) trivial fun _ _ H59 hb => ?_
   replace hS:=hS.below hb
   clear H57 hb
   refine r_if H59 rfl (fun hc => ?c77) (fun hc => ?_)
   case c77 =>
    replace hm:=bT hc hm
    refine r_seq ?_
    refine rl_start (by kernel_rfl) ?_
    have hd:=hS.hand [7] [0,1,2,3,4,5,6,8,9,10] rfl rfl
    refine m_stp0 [2,3] (fS [2,3] [vP b1,vP b4]) H59 rfl rfl rfl (o_store [vO] H59 hd rfl rfl (by kernel_rfl) rfl rfl rfl) rfl fun _ _ H61 hq => ?_
    clear H59 hd
    obtain ⟨_,hq⟩:=hq
    replace hS : SH M (fpl [eB b30 [vS (lnR v34)],eO 26 tyAnswer v35 g36,eB b24 [vL g36 v35],eB b4 [vI 0],eB b1 [vO],Ent.gifc 2,Ent.gifc 3,Ent.tab 1 (Lib.pow10Tab.map fun z => Value.int .u64 z)]) wR [eB b1 [vO],eB b51 [vI y42.1.Err,vI y42.1.Num,vL g43 y42.1.Texts,vL g45 y42.1.Numbers],eI tS y42.1.Texts g43,eO 3 (tI .i64) y42.1.Numbers g45,eB b30 [vS (lnR v34)],eO 26 tyAnswer v35 g36,eB b24 [vL g36 v35],eB b4 [vI 0],Ent.gifc 2,Ent.gifc 3,Ent.tab 1 (Lib.pow10Tab.map fun z => Value.int .u64 z)] _:=hS.join [7] [0,1,2,3,4,5,6,8,9,10] rfl rfl hq
    clear hq
    have hd:=hS.hand [7] [0,1,2,3,4,5,6,8,9,10] rfl rfl
    refine m_stp0 [2,3] (fS [2,3] [vP b1,vP b4]) H61 rfl rfl rfl (o_store [vI 12] H61 hd rfl rfl (by kernel_rfl) rfl rfl rfl) rfl fun _ _ H63 hq => ?_
    clear H61 hd
    obtain ⟨_,hq⟩:=hq
    replace hS : SH M (fpl [eB b30 [vS (lnR v34)],eO 26 tyAnswer v35 g36,eB b24 [vL g36 v35],eB b4 [vI 0],eB b1 [vO],Ent.gifc 2,Ent.gifc 3,Ent.tab 1 (Lib.pow10Tab.map fun z => Value.int .u64 z)]) wR [eB b4 [vI 12],eB b1 [vO],eB b51 [vI y42.1.Err,vI y42.1.Num,vL g43 y42.1.Texts,vL g45 y42.1.Numbers],eI tS y42.1.Texts g43,eO 3 (tI .i64) y42.1.Numbers g45,eB b30 [vS (lnR v34)],eO 26 tyAnswer v35 g36,eB b24 [vL g36 v35],Ent.gifc 2,Ent.gifc 3,Ent.tab 1 (Lib.pow10Tab.map fun z => Value.int .u64 z)] _:=hS.join [7] [0,1,2,3,4,5,6,8,9,10] rfl rfl hq
    clear hq
    apply wl_end rfl
    replace hS : SH M (fpl [eB b30 [vS (lnR v34)],eO 26 tyAnswer v35 g36,eB b24 [vL g36 v35],eB b4 [vI 0],eB b1 [vO],Ent.gifc 2,Ent.gifc 3,Ent.tab 1 (Lib.pow10Tab.map fun z => Value.int .u64 z)]) wR [eB b4 [vI 12],eB b1 [vO],eB b30 [vS (lnR v34)],eO 26 tyAnswer v35 g36,eB b24 [vL g36 v35],Ent.gifc 2,Ent.gifc 3,Ent.tab 1 (Lib.pow10Tab.map fun z => Value.int .u64 z)] _:=hS.sel [0,1,5,6,7,8,9,10] rfl
    refine r_ret ?_
    exact ⟨12,someE hm,hS.sel [1,0] rfl⟩
   replace hm:=bF hc hm
   refine r_skip ?_
   refine rl_start (by kernel_rfl) ?_
   refine wl_batch 0 2 [(vL g36 v35),(vG [vI y42.1.Err,vI y42.1.Num,vL g43 y42.1.Texts,vL g45 y42.1.Numbers])] [4,34,35] (fS [4,34,35] [vP b24,vL g36 v35,vG [vI y42.1.Err,vI y42.1.Num,vL g43 y42.1.Texts,vL g45 y42.1.Numbers]]) [rA b24 0 (vL g36 v35),rN b51 0 [vI y42.1.Err,vI y42.1.Num,vL g43 y42.1.Texts,vL g45 y42.1.Numbers]] H59 (by decide) (by kernel_rfl) ⟨((hS.bk 5 rfl).at1 rfl),((hS.bk 0 rfl).atD rfl),trivial⟩ fun _ _ H65 hb => ?_
   replace hS:=hS.below hb
   clear H59 hb
   replace hS : SH M (fpl [eB b30 [vS (lnR v34)],eO 26 tyAnswer v35 g36,eB b24 [vL g36 v35],eB b4 [vI 0],eB b1 [vO],Ent.gifc 2,Ent.gifc 3,Ent.tab 1 (Lib.pow10Tab.map fun z => Value.int .u64 z)]) wR [eI (tI .i64) y42.1.Numbers g45,eB b51 [vI y42.1.Err,vI y42.1.Num,vL g43 y42.1.Texts,vL g45 y42.1.Numbers],eI tS y42.1.Texts g43,eB b30 [vS (lnR v34)],eO 26 tyAnswer v35 g36,eB b24 [vL g36 v35],eB b4 [vI 0],eB b1 [vO],Ent.gifc 2,Ent.gifc 3,Ent.tab 1 (Lib.pow10Tab.map fun z => Value.int .u64 z)] _:=SH.frz1 (hS.sel [2,0,1,3,4,5,6,7,8,9,10] rfl)
   have hd:=hS.hand [2,0] [0,1,2,3,4,5,6,7,8,9,10] rfl rfl
   refine m_stp [36,4,34] (fS [4,34] [vP b24,vL g36 v35]) H65 rfl rfl rfl rfl (o_lit (T:=tyAnswer) (E:=26) (zv:=vG [vI 0,vI 0,vO,vO]) [vI y42.1.Err,vI y42.1.Num,vL g43 y42.1.Texts,vL g45 y42.1.Numbers] ([y42.1] : List TAnswer) [gL [g43,g45]] _ H65 hd rfl (by kernel_rfl) (by kernel_rfl) (by kernel_rfl) (by kernel_rfl) (by kernel_rfl) (by kernel_rfl) (by kernel_rfl) rfl (InnL.cons (tyAnswer_mk (hd.im 0 rfl) (hd.im 1 rfl)) InnL.nil)) (fun _ => rfl) fun _ _ v H69 hq => ?_
   clear H65 hd
   obtain ⟨g66,rfl,hq⟩:=hq
   replace hS : SH M (fpl [eB b30 [vS (lnR v34)],eO 26 tyAnswer v35 g36,eB b24 [vL g36 v35],eB b4 [vI 0],eB b1 [vO],Ent.gifc 2,Ent.gifc 3,Ent.tab 1 (Lib.pow10Tab.map fun z => Value.int .u64 z)]) wR [eO 26 tyAnswer ([y42.1] : List TAnswer) g66,eI (tI .i64) y42.1.Numbers g45,eB b51 [vI y42.1.Err,vI y42.1.Num,vL g43 y42.1.Texts,vL g45 y42.1.Numbers],eI tS y42.1.Texts g43,eB b30 [vS (lnR v34)],eO 26 tyAnswer v35 g36,eB b24 [vL g36 v35],eB b4 [vI 0],eB b1 [vO],Ent.gifc 2,Ent.gifc 3,Ent.tab 1 (Lib.pow10Tab.map fun z => Value.int .u64 z)] _:=hS.join [2,0] [0,1,2,3,4,5,6,7,8,9,10] rfl rfl hq
   clear hq
   obtain ⟨ho70,hm⟩:=chkE hm
   obtain ⟨q71,hq71,hm⟩:=letE hm
   have hd:=hS.hand [5,0] [1,2,3,4,6,7,8,9,10,11] rfl rfl
   refine m_stp [37,4] [(4,[],vP b24)] H69 rfl rfl rfl rfl (o_app2 (T:=tyAnswer) (zv:=vG [vI 0,vI 0,vO,vO]) (g1:=g36) (g2:=g66) (l1:=v35) (l2:=([y42.1] : List TAnswer)) q71 hq71.symm H69 hd rfl rfl rfl rfl rfl rfl rfl (by kernel_rfl) (by kernel_rfl) rfl rfl ho70) (fun _ => rfl) fun _ _ v H73 hq => ?_
   clear H69 hd
   obtain ⟨g74,rfl,hq⟩:=hq
   replace hS : SH M (fpl [eB b30 [vS (lnR v34)],eO 26 tyAnswer v35 g36,eB b24 [vL g36 v35],eB b4 [vI 0],eB b1 [vO],Ent.gifc 2,Ent.gifc 3,Ent.tab 1 (Lib.pow10Tab.map fun z => Value.int .u64 z)]) wR [eO 26 tyAnswer q71 g74,eO 26 tyAnswer ([y42.1] : List TAnswer) g66,eI (tI .i64) y42.1.Numbers g45,eB b51 [vI y42.1.Err,vI y42.1.Num,vL g43 y42.1.Texts,vL g45 y42.1.Numbers],eI tS y42.1.Texts g43,eB b30 [vS (lnR v34)],eB b24 [vL g36 v35],eB b4 [vI 0],eB b1 [vO],Ent.gifc 2,Ent.gifc 3,Ent.tab 1 (Lib.pow10Tab.map fun z => Value.int .u64 z)] _:=hS.join [5,0] [1,2,3,4,6,7,8,9,10,11] rfl rfl hq
   clear hq
   have hd:=hS.hand [6] [0,1,2,3,4,5,7,8,9,10,11] rfl rfl
   refine m_stp0 [] [] H73 rfl rfl rfl (o_store [vL g74 q71] H73 hd rfl rfl (by kernel_rfl) rfl rfl rfl) rfl fun _ _ H76 hq => ?_
   clear H73 hd
   obtain ⟨_,hq⟩:=hq
   replace hS : SH M (fpl [eB b30 [vS (lnR v34)],eO 26 tyAnswer v35 g36,eB b24 [vL g36 v35],eB b4 [vI 0],eB b1 [vO],Ent.gifc 2,Ent.gifc 3,Ent.tab 1 (Lib.pow10Tab.map fun z => Value.int .u64 z)]) wR [eB b24 [vL g74 q71],eO 26 tyAnswer q71 g74,eO 26 tyAnswer ([y42.1] : List TAnswer) g66,eI (tI .i64) y42.1.Numbers g45,eB b51 [vI y42.1.Err,vI y42.1.Num,vL g43 y42.1.Texts,vL g45 y42.1.Numbers],eI tS y42.1.Texts g43,eB b30 [vS (lnR v34)],eB b4 [vI 0],eB b1 [vO],Ent.gifc 2,Ent.gifc 3,Ent.tab 1 (Lib.pow10Tab.map fun z => Value.int .u64 z)] _:=hS.join [6] [0,1,2,3,4,5,7,8,9,10,11] rfl rfl hq
   clear hq
   apply wl_end rfl
   replace hS : SH M (fpl [eB b30 [vS (lnR v34)],eO 26 tyAnswer v35 g36,eB b24 [vL g36 v35],eB b4 [vI 0],eB b1 [vO],Ent.gifc 2,Ent.gifc 3,Ent.tab 1 (Lib.pow10Tab.map fun z => Value.int .u64 z)]) wR [eB b24 [vL g74 q71],eO 26 tyAnswer q71 g74,eB b30 [vS (lnR v34)],eB b4 [vI 0],eB b1 [vO],Ent.gifc 2,Ent.gifc 3,Ent.tab 1 (Lib.pow10Tab.map fun z => Value.int .u64 z)] _:=hS.sel [0,1,6,7,8,9,10,11] rfl
   exact ⟨(q71,g74),⟨kk,hm⟩,hS.sel [2,1,0,3,4,5,6,7] rfl⟩
 case hn_1 =>
  intro sR bD78 aR wR hb_bD78 hC H hS
  obtain ⟨v35,g36⟩:=sR
  obtain ⟨kk,hm⟩:=hC
  replace hm : answer_ReadText_L1 m  kk (lnK y29 (lnN y29)) v35 = some r:=hm
  replace H : FrG [mk bD78] 39 (fS [2,3,4,24] [vP b1,vP b4,vP b24,.func (.func 67) ⟨[]⟩ ⟨[vP b30]⟩]) aR:=H
  replace hS : SH M X w [Ent.obj bD78 dEnd,eB b30 [vS (lnK y29 (lnN y29))],eO 26 tyAnswer v35 g36,eB b24 [vL g36 v35],eB b4 [vI 0],eB b1 [vO],Ent.gifc 2,Ent.gifc 3,Ent.tab 1 (Lib.pow10Tab.map fun z => Value.int .u64 z)] wR:=hS
  rw [lnK_end] at hS hm
  cases kk with
  | zero => exact noneE hm
  | succ kk =>
   rw [answer_ReadText_L1] at hm
   replace hm:=bF rfl hm
   apply w_seq
   apply wl_start
   refine wl_batch 0 1 [(vL g36 v35)] [2,3,38] (fS [2,3,38] [vP b1,vP b4,vL g36 v35]) [rA b24 0 (vL g36 v35)] H (by decide) (by kernel_rfl) ⟨((hS.bk 3 rfl).at1 rfl),trivial⟩ fun _ _ H80 hb => ?_
   replace hS:=hS.below hb
   clear H hb
   have hd:=hS.hand [5] [0,1,2,3,4,6,7,8] rfl rfl
   refine m_stp0 [2,3] (fS [2,3] [vP b1,vP b4]) H80 rfl rfl rfl (o_store [vL g36 v35] H80 hd rfl rfl (by kernel_rfl) rfl rfl rfl) rfl fun _ _ H82 hq => ?_
   clear H80 hd
   obtain ⟨_,hq⟩:=hq
   replace hS : SH M X w [eB b1 [vL g36 v35],Ent.obj bD78 dEnd,eB b30 [vN],eO 26 tyAnswer v35 g36,eB b24 [vL g36 v35],eB b4 [vI 0],Ent.gifc 2,Ent.gifc 3,Ent.tab 1 (Lib.pow10Tab.map fun z => Value.int .u64 z)] _:=hS.join [5] [0,1,2,3,4,6,7,8] rfl rfl hq
   clear hq
   have hd:=hS.hand [5] [0,1,2,3,4,6,7,8] rfl rfl
   refine m_stp0 [2,3] (fS [2,3] [vP b1,vP b4]) H82 rfl rfl rfl (o_store [vI 0] H82 hd rfl rfl (by kernel_rfl) rfl rfl rfl) rfl fun _ _ H84 hq => ?_
   clear H82 hd
   obtain ⟨_,hq⟩:=hq
   replace hS : SH M X w [eB b4 [vI 0],eB b1 [vL g36 v35],Ent.obj bD78 dEnd,eB b30 [vN],eO 26 tyAnswer v35 g36,eB b24 [vL g36 v35],Ent.gifc 2,Ent.gifc 3,Ent.tab 1 (Lib.pow10Tab.map fun z => Value.int .u64 z)] _:=hS.join [5] [0,1,2,3,4,6,7,8] rfl rfl hq
   clear hq
   apply wl_end rfl
   replace hS : SH M X w [eB b4 [vI 0],eB b1 [vL g36 v35],Ent.obj bD78 dEnd,eB b30 [vN],eO 26 tyAnswer v35 g36,Ent.gifc 2,Ent.gifc 3,Ent.tab 1 (Lib.pow10Tab.map fun z => Value.int .u64 z)] _:=hS.sel [0,1,2,3,4,6,7,8] rfl
   apply w_ret
   obtain rfl:=someE hm
   refine retM H84 hb_bD78 (hS.sel [2,0,1,3,4,5,6,7] rfl) ⟨nc_blk _ _,⟨nc_blk _ _,⟨nc_blk _ _,⟨nc_own nc_tyAnswer _ _ _,⟨nc_gifc _,⟨nc_gifc _,⟨nc_tab _ _,trivial⟩⟩⟩⟩⟩⟩⟩ fun _ _ H hS => ?_
   replace hS : SH M X w [eB b4 [vI 0],eB b1 [vL g36 v35],eB b30 [vN],eO 26 tyAnswer v35 g36,Ent.gifc 2,Ent.gifc 3,Ent.tab 1 (Lib.pow10Tab.map fun z => Value.int .u64 z)] _:=hS
   exact retR2 H rfl (oneRes_one rfl (hS.bk 1 rfl) Tryd.underlying41 rfl) (oneRes_one rfl (hS.bk 0 rfl) Tryd.underlying22 rfl) ⟨_,rfl,g36,rfl,(hS.sel [3] rfl)⟩
 case hr_1 =>
  intro yR bD78 aR wR hb_bD78 hC H hS
  have hm:=congrArg some hC
  replace H : FrG [mk bD78] 39 (fS [2,3,4,24] [vP b1,vP b4,vP b24,.func (.func 67) ⟨[]⟩ ⟨[vP b30]⟩]) aR:=H
  replace hS : SH M X w [Ent.obj bD78 dEnd,eB b1 [vO],eB b4 [vI yR]] wR:=hS
  obtain rfl:=someE hm
  replace hS : SH M X w [eO 26 tyAnswer ([] : List TAnswer) (.nil),Ent.obj bD78 dEnd,eB b1 [vO],eB b4 [vI yR]] _:=hS.addNil 26 tyAnswer
  refine retM H hb_bD78 (hS.sel [1,0,2,3] rfl) ⟨nc_own nc_tyAnswer _ _ _,⟨nc_blk _ _,⟨nc_blk _ _,trivial⟩⟩⟩ fun _ _ H hS => ?_
  replace hS : SH M X w [eO 26 tyAnswer ([] : List TAnswer) (.nil),eB b1 [vO],eB b4 [vI yR]] _:=hS
  exact retR2 H rfl (oneRes_one rfl (hS.bk 1 rfl) Tryd.underlying41 rfl) (oneRes_one rfl (hS.bk 2 rfl) Tryd.underlying22 rfl) ⟨_,rfl,Gh.nil,rfl,(hS.sel [0] rfl)⟩
theorem answer_ReadText_ok  (m : Nat) (s : Str) (r : (List TAnswer) × Int) (hm : answer_ReadText m s = some r) (M : Av) (w : World) (hS : S0 M [Ent.gifc 2,Ent.gifc 3,Ent.tab 1 (Lib.pow10Tab.map fun z => Value.int .u64 z)] w) : DoesX Tryd.prog 22 ⟨[vS s]⟩ w (fun v w' => ∃ (g901 : Gh),v = vW [vL g901 r.1,vI r.2] ∧ SH M (fpl [Ent.gifc 2,Ent.gifc 3,Ent.tab 1 (Lib.pow10Tab.map fun z => Value.int .u64 z)]) w [eO 26 tyAnswer r.1 g901] w'):=⟨Tryd.call22 _,answer_ReadText_w M m   s r hm w hS⟩

theorem law40_alive_w  (M : Av) (m : Nat)  (r : Bool) (hm : law40_alive m = some r) (w : World) (hS : S0 M [Ent.tab 1 (Lib.pow10Tab.map fun z => Value.int .u64 z),Ent.gifc 2,Ent.gifc 3] w) : Calls Tryd.prog 16 ⟨[]⟩ w (fun e w' => ∃ v,e = .returned v ∧ v = vB r ∧ SH M (fpl [Ent.tab 1 (Lib.pow10Tab.map fun z => Value.int .u64 z),Ent.gifc 2,Ent.gifc 3]) w [] w'):=by
 rw [law40_alive] at hm
 have hS0 : SH M (fpl [Ent.tab 1 (Lib.pow10Tab.map fun z => Value.int .u64 z),Ent.gifc 2,Ent.gifc 3]) w [Ent.tab 1 (Lib.pow10Tab.map fun z => Value.int .u64 z),Ent.gifc 2,Ent.gifc 3] w:=hS
 generalize hX : fpl [Ent.tab 1 (Lib.pow10Tab.map fun z => Value.int .u64 z),Ent.gifc 2,Ent.gifc 3] = X at hS0 ⊢
 clear hS hX
 have hS:=hS0
 clear hS0
 refine calls_entryP Tryd.func16 rfl Tryd.ntmps16 rfl fun _ H => ?_
 refine s_reg [] [] [] [] H (by kernel_rfl) trivial fun _ _ H2 hb => ?_
 replace hS:=hS.below hb
 clear H hb
 obtain ⟨z3,hz,hm⟩:=bindE hm
 refine w_cut (fun a' w' => Fr 20 [(0,[],vB z3)] a' ∧ SH M X w [Ent.tab 1 (Lib.pow10Tab.map fun z => Value.int .u64 z),Ent.gifc 2,Ent.gifc 3] w') ?_ ?_
 ·replace hm:=hz
  apply wl_start
  obtain ⟨y4,hy4,hm⟩:=bindE hm
  obtain ⟨x5,hx5,hm⟩:=letE hm
  refine wl_batch 0 3 [(vB y4)] [3] [(3,[],vB x5)] [rB 24 [vG [vI 6,vI 0,vO,vO],vS [54,32,48,32,91,93,32,91,93]] (vB y4)] H2 (by decide) (by subst hx5; kernel_rfl) ⟨(law40_is_ok (g_a__0:=Gh.nil) (g_a__1:=Gh.nil) m _ _ _ hy4 _ (s0im (s0im (s0tab (s0gf (s0gf s0nil (hS.at 2 rfl)) (hS.at 1 rfl)) (hS.at 0 rfl)) (SlG.nil (M:=F0) (g:=Gh.nil))) (SlG.nil (M:=F0) (g:=Gh.nil)))),trivial⟩ fun _ _ H7 hb => ?_
  replace hS:=hS.below hb
  clear H2 hb
  cases x5
  case false =>
   replace hm:=bF rfl hm
   refine m_skipG 3 [4,3] (fS [4,3] [undef,vF]) H7 rfl rfl rfl rfl rfl rfl fun _ H40 => ?_
   clear H7
   refine m_skipG 3 [5,3,4] (fS [5,3,4] [undef,vF,undef]) H40 rfl rfl rfl rfl rfl rfl fun _ H41 => ?_
   clear H40
   refine m_skipG 3 [6,3] (fS [6,3] [undef,vF]) H41 rfl rfl rfl rfl rfl rfl fun _ H42 => ?_
   clear H41
   refine m_skipG 3 [7,3] (fS [7,3] [undef,vF]) H42 rfl rfl rfl rfl rfl rfl fun _ H43 => ?_
   clear H42
   refine wl_batch 7 9 [] [9] [(9,[],vF)] [] H43 (by decide) (by kernel_rfl) trivial fun _ _ H45 hb => ?_
   replace hS:=hS.below hb
   clear H43 hb
   refine m_skipG 9 [10,9] (fS [10,9] [undef,vF]) H45 rfl rfl rfl rfl rfl rfl fun _ H46 => ?_
   clear H45
   refine m_skipG 9 [11,9] (fS [11,9] [undef,vF]) H46 rfl rfl rfl rfl rfl rfl fun _ H47 => ?_
   clear H46
   refine m_skipG 9 [12,9] (fS [12,9] [undef,vF]) H47 rfl rfl rfl rfl rfl rfl fun _ H48 => ?_
   clear H47
   refine wl_batch 12 14 [] [14] [(14,[],vF)] [] H48 (by decide) (by kernel_rfl) trivial fun _ _ H50 hb => ?_
   replace hS:=hS.below hb
   clear H48 hb
   refine m_skipG 14 [15,14] (fS [15,14] [undef,vF]) H50 rfl rfl rfl rfl rfl rfl fun _ H51 => ?_
   clear H50
   refine wl_batch 15 17 [] [17] [(17,[],vF)] [] H51 (by decide) (by kernel_rfl) trivial fun _ _ H53 hb => ?_
   replace hS:=hS.below hb
   clear H51 hb
   refine m_skipG 17 [18,17] (fS [18,17] [undef,vF]) H53 rfl rfl rfl rfl rfl rfl fun _ H54 => ?_
   clear H53
   refine wl_batch 18 20 [] [0] [(0,[],vF)] [] H54 (by decide) (by kernel_rfl) trivial fun _ _ H56 hb => ?_
   replace hS:=hS.below hb
   clear H54 hb
   apply wl_end rfl
   obtain rfl:=someE hm
   exact ⟨FrG.keep (ks:=[0]) H56 (by kernel_rfl),hS⟩
  replace hm:=bT rfl hm
  have hd:=hS.hand [] [0,1,2] rfl rfl
  refine m_stpG 3 [4,3] [(3,[],vT)] H7 rfl rfl rfl rfl (o_lit (T:=tS) (E:=9) (zv:=vN) [vS [97],vN] kL0 [gL [],gL []] _ H7 hd rfl (by kernel_rfl) (by kernel_rfl) (by kernel_rfl) (by kernel_rfl) (by kernel_rfl) (by kernel_rfl) (by kernel_rfl) rfl (InnL.cons trivial (InnL.cons trivial InnL.nil))) (fun _ => rfl) fun _ _ v H11 hq => ?_
  clear H7 hd
  obtain ⟨g8,rfl,hq⟩:=hq
  replace hS : SH M X w [eO 9 tS kL0 g8,Ent.tab 1 (Lib.pow10Tab.map fun z => Value.int .u64 z),Ent.gifc 2,Ent.gifc 3] _:=hS.join [] [0,1,2] rfl rfl hq
  clear hq
  have hd:=hS.hand [] [0,1,2,3] rfl rfl
  refine m_stpG 3 [5,3,4] (fS [3,4] [vT,vK g8 2]) H11 rfl rfl rfl rfl (o_lit (T:=(tI .i64)) (E:=3) (zv:=vI 0) [vI 7,vI (-1)] ([7,(-1)] : List Int) [gL [],gL []] _ H11 hd rfl (by kernel_rfl) (by kernel_rfl) (by kernel_rfl) (by kernel_rfl) (by kernel_rfl) (by kernel_rfl) (by kernel_rfl) rfl (InnL.cons trivial (InnL.cons trivial InnL.nil))) (fun _ => rfl) fun _ _ v H15 hq => ?_
  clear H11 hd
  obtain ⟨g12,rfl,hq⟩:=hq
  replace hS : SH M X w [eO 3 (tI .i64) ([7,(-1)] : List Int) g12,eO 9 tS kL0 g8,Ent.tab 1 (Lib.pow10Tab.map fun z => Value.int .u64 z),Ent.gifc 2,Ent.gifc 3] _:=hS.join [] [0,1,2,3] rfl rfl hq
  clear hq
  obtain ⟨y16,hy16,hm⟩:=bindE hm
  obtain ⟨x17,hx17,hm⟩:=letE hm
  refine wl_batch 5 9 [(vB y16)] [9] [(9,[],vB x17)] [fun wz => (true = true ∧ True → RetB Tryd.prog 24 ⟨[vG [vI 0,vI 2,vK g8 2,vK g12 2],vS [48,32,50,32,91,34,97,34,44,32,34,34,93,32,91,55,44,32,45,49,93]]⟩ (vB y16) wz)] H15 (by decide) (by subst hx17; kernel_rfl) ⟨fun hg => law40_is_ok (g_a__0:=g8) (g_a__1:=g12) m _ _ _ hy16 _ (s0im (s0im (s0tab (s0gf (s0gf s0nil (hS.at 4 rfl)) (hS.at 3 rfl)) (hS.at 2 rfl)) (hS.osl 0 rfl)) (hS.osl 1 rfl)),trivial⟩ fun _ _ H19 hb => ?_
  replace hS:=hS.below hb
  clear H15 hb
  cases x17
  case true =>
   replace hm:=bT rfl hm
   have hd:=hS.hand [] [0,1,2,3,4] rfl rfl
   refine m_stpG 9 [10,9] [(9,[],vT)] H19 rfl rfl rfl rfl (o_lit (T:=tS) (E:=9) (zv:=vN) [vS [34,10,128]] ([[34,10,128]] : List Str) [gL []] _ H19 hd rfl (by kernel_rfl) (by kernel_rfl) (by kernel_rfl) (by kernel_rfl) (by kernel_rfl) (by kernel_rfl) (by kernel_rfl) rfl (InnL.cons trivial InnL.nil)) (fun _ => rfl) fun _ _ v H23 hq => ?_
   clear H19 hd
   obtain ⟨g20,rfl,hq⟩:=hq
   replace hS : SH M X w [eO 9 tS ([[34,10,128]] : List Str) g20,eO 3 (tI .i64) ([7,(-1)] : List Int) g12,eO 9 tS kL0 g8,Ent.tab 1 (Lib.pow10Tab.map fun z => Value.int .u64 z),Ent.gifc 2,Ent.gifc 3] _:=hS.join [] [0,1,2,3,4] rfl rfl hq
   clear hq
   obtain ⟨y24,hy24,hm⟩:=bindE hm
   obtain ⟨y25,hy25,hm⟩:=bindE hm
   obtain ⟨y26,hy26,hm⟩:=bindE hm
   refine wl_batch 10 20 [(vB y24),(vB y25),(vB y26)] [0] [(0,[],vB (cond (cond y24 y25 false) y26 false))] [fun wz => (true = true ∧ True → RetB Tryd.prog 24 ⟨[vG [vI 0,vI 0,vK g20 1,vO],vS [48,32,48,32,91,34,92,34,92,110,92,120,56,48,34,93,32,91,93]]⟩ (vB y24) wz),fun wz => (y24 = true ∧ True → RetB Tryd.prog 26 ⟨[vS [48,32,48,32,91,32,93,32,91,93]]⟩ (vB y25) wz),fun wz => ((cond y24 y25 false) = true ∧ True → RetB Tryd.prog 26 ⟨[vS [48,32,48,48,32,91,93,32,91,93]]⟩ (vB y26) wz)] H23 (by decide) (by kernel_rfl) ⟨fun hg => law40_is_ok (g_a__0:=g20) (g_a__1:=Gh.nil) m _ _ _ hy24 _ (s0im (s0im (s0tab (s0gf (s0gf s0nil (hS.at 5 rfl)) (hS.at 4 rfl)) (hS.at 3 rfl)) (SlG.nil (M:=F0) (g:=Gh.nil))) (hS.osl 0 rfl)),fun hg => law40_none_ok m _ _ (bT (hg.1) hy25) _ (s0gf (s0gf (s0tab s0nil (hS.at 3 rfl)) (hS.at 5 rfl)) (hS.at 4 rfl)),fun hg => law40_none_ok m _ _ (bT (hg.1) hy26) _ (s0gf (s0gf (s0tab s0nil (hS.at 3 rfl)) (hS.at 5 rfl)) (hS.at 4 rfl)),trivial⟩ fun _ _ H28 hb => ?_
   replace hS:=hS.below hb
   clear H23 hb
   apply wl_end rfl
   replace hS : SH M X w [Ent.tab 1 (Lib.pow10Tab.map fun z => Value.int .u64 z),Ent.gifc 2,Ent.gifc 3] _:=hS.sel [3,4,5] rfl
   obtain rfl:=someE hm
   exact ⟨FrG.keep (ks:=[0]) H28 (by kernel_rfl),hS⟩
  replace hm:=bF rfl hm
  refine m_skipG 9 [10,9] (fS [10,9] [undef,vF]) H19 rfl rfl rfl rfl rfl rfl fun _ H29 => ?_
  clear H19
  refine m_skipG 9 [11,9] (fS [11,9] [undef,vF]) H29 rfl rfl rfl rfl rfl rfl fun _ H30 => ?_
  clear H29
  refine m_skipG 9 [12,9] (fS [12,9] [undef,vF]) H30 rfl rfl rfl rfl rfl rfl fun _ H31 => ?_
  clear H30
  refine wl_batch 12 14 [] [14] [(14,[],vF)] [] H31 (by decide) (by kernel_rfl) trivial fun _ _ H33 hb => ?_
  replace hS:=hS.below hb
  clear H31 hb
  refine m_skipG 14 [15,14] (fS [15,14] [undef,vF]) H33 rfl rfl rfl rfl rfl rfl fun _ H34 => ?_
  clear H33
  refine wl_batch 15 17 [] [17] [(17,[],vF)] [] H34 (by decide) (by kernel_rfl) trivial fun _ _ H36 hb => ?_
  replace hS:=hS.below hb
  clear H34 hb
  refine m_skipG 17 [18,17] (fS [18,17] [undef,vF]) H36 rfl rfl rfl rfl rfl rfl fun _ H37 => ?_
  clear H36
  refine wl_batch 18 20 [] [0] [(0,[],vF)] [] H37 (by decide) (by kernel_rfl) trivial fun _ _ H39 hb => ?_
  replace hS:=hS.below hb
  clear H37 hb
  apply wl_end rfl
  replace hS : SH M X w [Ent.tab 1 (Lib.pow10Tab.map fun z => Value.int .u64 z),Ent.gifc 2,Ent.gifc 3] _:=hS.sel [2,3,4] rfl
  obtain rfl:=someE hm
  exact ⟨FrG.keep (ks:=[0]) H39 (by kernel_rfl),hS⟩
 ·rintro _ _ ⟨H,hS⟩
  apply w_ret
  obtain rfl:=someE hm
  exact retR1 H rfl rfl ⟨_,rfl,rfl,(hS.sel [] rfl)⟩
theorem law40_alive_ok  (m : Nat)  (r : Bool) (hm : law40_alive m = some r) (w : World) (hL : S0 F0 [Ent.tab 1 (Lib.pow10Tab.map fun z => Value.int .u64 z),Ent.gifc 2,Ent.gifc 3] w ∧ fpl [Ent.tab 1 (Lib.pow10Tab.map fun z => Value.int .u64 z),Ent.gifc 2,Ent.gifc 3] = []) : RetB Tryd.prog 16 ⟨[]⟩ (vB r) w:=retB_of hL (Tryd.call16 _) (fun w' h => law40_alive_w F0 m    r hm w' h)

theorem law40_AnswerNames_w  (M : Av) (m : Nat)  (r : Bool) (hm : law40_AnswerNames m = some r) (w : World) (hS : S0 M [Ent.tab 1 (Lib.pow10Tab.map fun z => Value.int .u64 z),Ent.gifc 2,Ent.gifc 3] w) : Calls Tryd.prog 7 ⟨[]⟩ w (fun e w' => ∃ v,e = .returned v ∧ v = vB r ∧ SH M (fpl [Ent.tab 1 (Lib.pow10Tab.map fun z => Value.int .u64 z),Ent.gifc 2,Ent.gifc 3]) w [] w'):=by
 rw [law40_AnswerNames] at hm
 have hS0 : SH M (fpl [Ent.tab 1 (Lib.pow10Tab.map fun z => Value.int .u64 z),Ent.gifc 2,Ent.gifc 3]) w [Ent.tab 1 (Lib.pow10Tab.map fun z => Value.int .u64 z),Ent.gifc 2,Ent.gifc 3] w:=hS
 generalize hX : fpl [Ent.tab 1 (Lib.pow10Tab.map fun z => Value.int .u64 z),Ent.gifc 2,Ent.gifc 3] = X at hS0 ⊢
 clear hS hX
 have hS:=hS0
 clear hS0
 refine calls_entryP Tryd.func7 rfl Tryd.ntmps7 rfl fun _ H => ?_
 refine s_reg [] [] [] [] H (by kernel_rfl) trivial fun _ _ H2 hb => ?_
 replace hS:=hS.below hb
 clear H hb
 apply w_seq
 apply wl_start
 obtain ⟨ho3,hm⟩:=chkE hm
 have hd:=hS.hand [] [0,1,2] rfl rfl
 refine m_stp [39] [] H2 rfl rfl rfl rfl (o_make (T:=(tI .u8)) (E:=5) (zv:=vU 0) (0 : Int) H2 hd rfl rfl (by kernel_rfl) (by kernel_rfl) rfl rfl (fun _ _ => trivial) ho3) (fun _ => rfl) fun _ _ v H5 hq => ?_
 clear H2 hd
 obtain ⟨g6,rfl,hq⟩:=hq
 replace hS : SH M X w [eO 5 (tI .u8) (List.replicate ((20001 : Int)).toNat (0 : Int)) g6,Ent.tab 1 (Lib.pow10Tab.map fun z => Value.int .u64 z),Ent.gifc 2,Ent.gifc 3] _:=hS.join [] [0,1,2] rfl rfl hq
 clear hq
 refine wl_batch 1 3 [(vS (toB (List.replicate ((20001 : Int)).toNat (0 : Int))))] [1] [(1,[],vS (toB (List.replicate ((20001 : Int)).toNat (0 : Int))))] [fun wz => ∀ w',Below wz.heap.size wz w' → (convert 53 9 (.slice g6.a ((List.replicate ((20001 : Int)).toNat (0 : Int)).length) g6.c)).run Tryd.prog w' = .ok (vS (toB (List.replicate ((20001 : Int)).toNat (0 : Int)))) w'] H5 (by decide) (by kernel_rfl) ⟨(conv_slG (E:=5) (by kernel_rfl) (by kernel_rfl) (by kernel_rfl) (hS.osl 0 rfl)),trivial⟩ fun _ _ H9 hb => ?_
 replace hS:=hS.below hb
 clear H5 hb
 apply wl_end rfl
 replace hS : SH M X w [Ent.tab 1 (Lib.pow10Tab.map fun z => Value.int .u64 z),Ent.gifc 2,Ent.gifc 3] _:=hS.sel [1,2,3] rfl
 obtain ⟨z10,hz,hm⟩:=bindE hm
 refine w_cut (fun a' w' => Fr 382 (fS [1,2] [vS (toB (List.replicate ((20001 : Int)).toNat (0 : Int))),vB z10]) a' ∧ SH M X w [Ent.tab 1 (Lib.pow10Tab.map fun z => Value.int .u64 z),Ent.gifc 2,Ent.gifc 3] w') ?_ ?_
 ·replace hm:=hz
  apply wl_start
  obtain ⟨y11,hy11,hm⟩:=bindE hm
  obtain ⟨x12,hx12,hm⟩:=letE hm
  refine wl_batch 0 3 [(vB y11)] [1,43] (fS [1,43] [vS (toB (List.replicate ((20001 : Int)).toNat (0 : Int))),vB x12]) [rB 24 [vG [vI 99,vI (-9223372036854775808),vO,vO],vS [57,57,32,45,57,50,50,51,51,55,50,48,51,54,56,53,52,55,55,53,56,48,56,32,91,93,32,91,93]] (vB y11)] H9 (by decide) (by subst hx12; kernel_rfl) ⟨(law40_is_ok (g_a__0:=Gh.nil) (g_a__1:=Gh.nil) m _ _ _ hy11 _ (s0im (s0im (s0tab (s0gf (s0gf s0nil (hS.at 2 rfl)) (hS.at 1 rfl)) (hS.at 0 rfl)) (SlG.nil (M:=F0) (g:=Gh.nil))) (SlG.nil (M:=F0) (g:=Gh.nil)))),trivial⟩ fun _ _ H14 hb => ?_
  replace hS:=hS.below hb
  clear H9 hb
  cases x12
  case false =>
   replace hm:=bF rfl hm
   refine m_skipG 43 [44,1,43] (fS [44,1,43] [undef,vS (toB (List.replicate ((20001 : Int)).toNat (0 : Int))),vF]) H14 rfl rfl rfl rfl rfl rfl fun _ H53 => ?_
   clear H14
   refine m_skipG 43 [45,1,43] (fS [45,1,43] [undef,vS (toB (List.replicate ((20001 : Int)).toNat (0 : Int))),vF]) H53 rfl rfl rfl rfl rfl rfl fun _ H54 => ?_
   clear H53
   refine m_skipG 43 [46,1,43] (fS [46,1,43] [undef,vS (toB (List.replicate ((20001 : Int)).toNat (0 : Int))),vF]) H54 rfl rfl rfl rfl rfl rfl fun _ H55 => ?_
   clear H54
   refine wl_batch 6 8 [] [1,48] (fS [1,48] [vS (toB (List.replicate ((20001 : Int)).toNat (0 : Int))),vF]) [] H55 (by decide) (by kernel_rfl) trivial fun _ _ H57 hb => ?_
   replace hS:=hS.below hb
   clear H55 hb
   refine m_skipG 48 [49,1,48] (fS [49,1,48] [undef,vS (toB (List.replicate ((20001 : Int)).toNat (0 : Int))),vF]) H57 rfl rfl rfl rfl rfl rfl fun _ H58 => ?_
   clear H57
   refine m_skipG 48 [50,1,48] (fS [50,1,48] [undef,vS (toB (List.replicate ((20001 : Int)).toNat (0 : Int))),vF]) H58 rfl rfl rfl rfl rfl rfl fun _ H59 => ?_
   clear H58
   refine m_skipG 48 [51,1,48] (fS [51,1,48] [undef,vS (toB (List.replicate ((20001 : Int)).toNat (0 : Int))),vF]) H59 rfl rfl rfl rfl rfl rfl fun _ H60 => ?_
   clear H59
   refine wl_batch 11 13 [] [1,53] (fS [1,53] [vS (toB (List.replicate ((20001 : Int)).toNat (0 : Int))),vF]) [] H60 (by decide) (by kernel_rfl) trivial fun _ _ H62 hb => ?_
   replace hS:=hS.below hb
   clear H60 hb
   refine m_skipG 53 [54,1,53] (fS [54,1,53] [undef,vS (toB (List.replicate ((20001 : Int)).toNat (0 : Int))),vF]) H62 rfl rfl rfl rfl rfl rfl fun _ H63 => ?_
   clear H62
   refine m_skipG 53 [55,1,53] (fS [55,1,53] [undef,vS (toB (List.replicate ((20001 : Int)).toNat (0 : Int))),vF]) H63 rfl rfl rfl rfl rfl rfl fun _ H64 => ?_
   clear H63
   refine m_skipG 53 [56,1,53] (fS [56,1,53] [undef,vS (toB (List.replicate ((20001 : Int)).toNat (0 : Int))),vF]) H64 rfl rfl rfl rfl rfl rfl fun _ H65 => ?_
   clear H64
   refine wl_batch 16 18 [] [1,2] (fS [1,2] [vS (toB (List.replicate ((20001 : Int)).toNat (0 : Int))),vF]) [] H65 (by decide) (by kernel_rfl) trivial fun _ _ H67 hb => ?_
   replace hS:=hS.below hb
   clear H65 hb
   apply wl_end rfl
   obtain rfl:=someE hm
   exact ⟨FrG.keep (ks:=[1,2]) H67 (by kernel_rfl),hS⟩
  replace hm:=bT rfl hm
  have hd:=hS.hand [] [0,1,2] rfl rfl
  refine m_stpG 43 [44,1,43] (fS [1,43] [vS (toB (List.replicate ((20001 : Int)).toNat (0 : Int))),vT]) H14 rfl rfl rfl rfl (o_lit (T:=(tI .i64)) (E:=3) (zv:=vI 0) [vI 0] ([0] : List Int) [gL []] _ H14 hd rfl (by kernel_rfl) (by kernel_rfl) (by kernel_rfl) (by kernel_rfl) (by kernel_rfl) (by kernel_rfl) (by kernel_rfl) rfl (InnL.cons trivial InnL.nil)) (fun _ => rfl) fun _ _ v H18 hq => ?_
  clear H14 hd
  obtain ⟨g15,rfl,hq⟩:=hq
  replace hS : SH M X w [eO 3 (tI .i64) ([0] : List Int) g15,Ent.tab 1 (Lib.pow10Tab.map fun z => Value.int .u64 z),Ent.gifc 2,Ent.gifc 3] _:=hS.join [] [0,1,2] rfl rfl hq
  clear hq
  obtain ⟨y19,hy19,hm⟩:=bindE hm
  obtain ⟨x20,hx20,hm⟩:=letE hm
  refine wl_batch 4 8 [(vB y19)] [1,48] (fS [1,48] [vS (toB (List.replicate ((20001 : Int)).toNat (0 : Int))),vB x20]) [fun wz => (true = true ∧ True → RetB Tryd.prog 24 ⟨[vG [vI 0,vI 9223372036854775807,vO,vK g15 1],vS [48,32,57,50,50,51,51,55,50,48,51,54,56,53,52,55,55,53,56,48,55,32,91,93,32,91,48,93]]⟩ (vB y19) wz)] H18 (by decide) (by subst hx20; kernel_rfl) ⟨fun hg => law40_is_ok (g_a__0:=Gh.nil) (g_a__1:=g15) m _ _ _ hy19 _ (s0im (s0im (s0tab (s0gf (s0gf s0nil (hS.at 3 rfl)) (hS.at 2 rfl)) (hS.at 1 rfl)) (hS.osl 0 rfl)) (SlG.nil (M:=F0) (g:=Gh.nil))),trivial⟩ fun _ _ H22 hb => ?_
  replace hS:=hS.below hb
  clear H18 hb
  cases x20
  case false =>
   replace hm:=bF rfl hm
   refine m_skipG 48 [49,1,48] (fS [49,1,48] [undef,vS (toB (List.replicate ((20001 : Int)).toNat (0 : Int))),vF]) H22 rfl rfl rfl rfl rfl rfl fun _ H43 => ?_
   clear H22
   refine m_skipG 48 [50,1,48] (fS [50,1,48] [undef,vS (toB (List.replicate ((20001 : Int)).toNat (0 : Int))),vF]) H43 rfl rfl rfl rfl rfl rfl fun _ H44 => ?_
   clear H43
   refine m_skipG 48 [51,1,48] (fS [51,1,48] [undef,vS (toB (List.replicate ((20001 : Int)).toNat (0 : Int))),vF]) H44 rfl rfl rfl rfl rfl rfl fun _ H45 => ?_
   clear H44
   refine wl_batch 11 13 [] [1,53] (fS [1,53] [vS (toB (List.replicate ((20001 : Int)).toNat (0 : Int))),vF]) [] H45 (by decide) (by kernel_rfl) trivial fun _ _ H47 hb => ?_
   replace hS:=hS.below hb
   clear H45 hb
   refine m_skipG 53 [54,1,53] (fS [54,1,53] [undef,vS (toB (List.replicate ((20001 : Int)).toNat (0 : Int))),vF]) H47 rfl rfl rfl rfl rfl rfl fun _ H48 => ?_
   clear H47
   refine m_skipG 53 [55,1,53] (fS [55,1,53] [undef,vS (toB (List.replicate ((20001 : Int)).toNat (0 : Int))),vF]) H48 rfl rfl rfl rfl rfl rfl fun _ H49 => ?_
   clear H48
   refine m_skipG 53 [56,1,53] (fS [56,1,53] [undef,vS (toB (List.replicate ((20001 : Int)).toNat (0 : Int))),vF]) H49 rfl rfl rfl rfl rfl rfl fun _ H50 => ?_
   clear H49
   refine wl_batch 16 18 [] [1,2] (fS [1,2] [vS (toB (List.replicate ((20001 : Int)).toNat (0 : Int))),vF]) [] H50 (by decide) (by kernel_rfl) trivial fun _ _ H52 hb => ?_
   replace hS:=hS.below hb
   clear H50 hb
   apply wl_end rfl
   replace hS : SH M X w [Ent.tab 1 (Lib.pow10Tab.map fun z => Value.int .u64 z),Ent.gifc 2,Ent.gifc 3] _:=hS.sel [1,2,3] rfl
   obtain rfl:=someE hm
   exact ⟨FrG.keep (ks:=[1,2]) H52 (by kernel_rfl),hS⟩
  replace hm:=bT rfl hm
  have hd:=hS.hand [] [0,1,2,3] rfl rfl
  refine m_stpG 48 [49,1,48] (fS [1,48] [vS (toB (List.replicate ((20001 : Int)).toNat (0 : Int))),vT]) H22 rfl rfl rfl rfl (o_lit (T:=tS) (E:=9) (zv:=vN) [vS [44,32],vS [93,32,91]] kL1 [gL [],gL []] _ H22 hd rfl (by kernel_rfl) (by kernel_rfl) (by kernel_rfl) (by kernel_rfl) (by kernel_rfl) (by kernel_rfl) (by kernel_rfl) rfl (InnL.cons trivial (InnL.cons trivial InnL.nil))) (fun _ => rfl) fun _ _ v H26 hq => ?_
  clear H22 hd
  obtain ⟨g23,rfl,hq⟩:=hq
  replace hS : SH M X w [eO 9 tS kL1 g23,eO 3 (tI .i64) ([0] : List Int) g15,Ent.tab 1 (Lib.pow10Tab.map fun z => Value.int .u64 z),Ent.gifc 2,Ent.gifc 3] _:=hS.join [] [0,1,2,3] rfl rfl hq
  clear hq
  obtain ⟨y27,hy27,hm⟩:=bindE hm
  obtain ⟨x28,hx28,hm⟩:=letE hm
  refine wl_batch 9 13 [(vB y27)] [1,53] (fS [1,53] [vS (toB (List.replicate ((20001 : Int)).toNat (0 : Int))),vB x28]) [fun wz => (true = true ∧ True → RetB Tryd.prog 24 ⟨[vG [vI 0,vI 0,vK g23 2,vO],vS [48,32,48,32,91,34,44,32,34,44,32,34,93,32,91,34,93,32,91,93]]⟩ (vB y27) wz)] H26 (by decide) (by subst hx28; kernel_rfl) ⟨fun hg => law40_is_ok (g_a__0:=g23) (g_a__1:=Gh.nil) m _ _ _ hy27 _ (s0im (s0im (s0tab (s0gf (s0gf s0nil (hS.at 4 rfl)) (hS.at 3 rfl)) (hS.at 2 rfl)) (SlG.nil (M:=F0) (g:=Gh.nil))) (hS.osl 0 rfl)),trivial⟩ fun _ _ H30 hb => ?_
  replace hS:=hS.below hb
  clear H26 hb
  cases x28
  case false =>
   replace hm:=bF rfl hm
   refine m_skipG 53 [54,1,53] (fS [54,1,53] [undef,vS (toB (List.replicate ((20001 : Int)).toNat (0 : Int))),vF]) H30 rfl rfl rfl rfl rfl rfl fun _ H38 => ?_
   clear H30
   refine m_skipG 53 [55,1,53] (fS [55,1,53] [undef,vS (toB (List.replicate ((20001 : Int)).toNat (0 : Int))),vF]) H38 rfl rfl rfl rfl rfl rfl fun _ H39 => ?_
   clear H38
   refine m_skipG 53 [56,1,53] (fS [56,1,53] [undef,vS (toB (List.replicate ((20001 : Int)).toNat (0 : Int))),vF]) H39 rfl rfl rfl rfl rfl rfl fun _ H40 => ?_
   clear H39
   refine wl_batch 16 18 [] [1,2] (fS [1,2] [vS (toB (List.replicate ((20001 : Int)).toNat (0 : Int))),vF]) [] H40 (by decide) (by kernel_rfl) trivial fun _ _ H42 hb => ?_
   replace hS:=hS.below hb
   clear H40 hb
   apply wl_end rfl
   replace hS : SH M X w [Ent.tab 1 (Lib.pow10Tab.map fun z => Value.int .u64 z),Ent.gifc 2,Ent.gifc 3] _:=hS.sel [2,3,4] rfl
   obtain rfl:=someE hm
   exact ⟨FrG.keep (ks:=[1,2]) H42 (by kernel_rfl),hS⟩
  replace hm:=bT rfl hm
  have hd:=hS.hand [] [0,1,2,3,4] rfl rfl
  refine m_stpG 53 [54,1,53] (fS [1,53] [vS (toB (List.replicate ((20001 : Int)).toNat (0 : Int))),vT]) H30 rfl rfl rfl rfl (o_lit (T:=tS) (E:=9) (zv:=vN) [vS [92,0,127,126,32]] ([[92,0,127,126,32]] : List Str) [gL []] _ H30 hd rfl (by kernel_rfl) (by kernel_rfl) (by kernel_rfl) (by kernel_rfl) (by kernel_rfl) (by kernel_rfl) (by kernel_rfl) rfl (InnL.cons trivial InnL.nil)) (fun _ => rfl) fun _ _ v H34 hq => ?_
  clear H30 hd
  obtain ⟨g31,rfl,hq⟩:=hq
  replace hS : SH M X w [eO 9 tS ([[92,0,127,126,32]] : List Str) g31,eO 9 tS kL1 g23,eO 3 (tI .i64) ([0] : List Int) g15,Ent.tab 1 (Lib.pow10Tab.map fun z => Value.int .u64 z),Ent.gifc 2,Ent.gifc 3] _:=hS.join [] [0,1,2,3,4] rfl rfl hq
  clear hq
  obtain ⟨y35,hy35,hm⟩:=bindE hm
  refine wl_batch 14 18 [(vB y35)] [1,2] (fS [1,2] [vS (toB (List.replicate ((20001 : Int)).toNat (0 : Int))),vB y35]) [fun wz => (true = true ∧ True → RetB Tryd.prog 24 ⟨[vG [vI 0,vI 0,vK g31 1,vO],vS [48,32,48,32,91,34,92,92,92,120,48,48,92,120,55,102,126,32,34,93,32,91,93]]⟩ (vB y35) wz)] H34 (by decide) (by kernel_rfl) ⟨fun hg => law40_is_ok (g_a__0:=g31) (g_a__1:=Gh.nil) m _ _ _ hy35 _ (s0im (s0im (s0tab (s0gf (s0gf s0nil (hS.at 5 rfl)) (hS.at 4 rfl)) (hS.at 3 rfl)) (SlG.nil (M:=F0) (g:=Gh.nil))) (hS.osl 0 rfl)),trivial⟩ fun _ _ H37 hb => ?_
  replace hS:=hS.below hb
  clear H34 hb
  apply wl_end rfl
  replace hS : SH M X w [Ent.tab 1 (Lib.pow10Tab.map fun z => Value.int .u64 z),Ent.gifc 2,Ent.gifc 3] _:=hS.sel [3,4,5] rfl
  obtain rfl:=someE hm
  exact ⟨FrG.keep (ks:=[1,2]) H37 (by kernel_rfl),hS⟩
 ·rintro _ _ ⟨H,hS⟩
  obtain ⟨y69,hy69,hm⟩:=bindE hm
  obtain ⟨ho70,hm⟩:=chkE hm
  obtain ⟨y71,hy71,hm⟩:=bindE hm
  obtain ⟨ho72,hm⟩:=chkE hm
  obtain ⟨ho73,hm⟩:=chkE hm
  obtain ⟨q74,hq74,hm⟩:=letE hm
  obtain ⟨y77,hy77,hm⟩:=bindE hm
  obtain ⟨ho78,hm⟩:=chkE hm
  obtain ⟨y81,hy81,hm⟩:=bindE hm
  obtain ⟨ho82,hm⟩:=chkE hm
  obtain ⟨ho83,hm⟩:=chkE hm
  obtain ⟨ho84,hm⟩:=chkE hm
  obtain ⟨y87,hy87,hm⟩:=bindE hm
  obtain ⟨ho88,hm⟩:=chkE hm
  obtain ⟨q89,hq89,hm⟩:=letE hm
  obtain ⟨y92,hy92,hm⟩:=bindE hm
  refine s_drawS (base:=(fS [1,2] [vS (toB (List.replicate ((20001 : Int)).toNat (0 : Int))),vB z10])) (L:=[Ent.tab 1 (Lib.pow10Tab.map fun z => Value.int .u64 z),Ent.gifc 2,Ent.gifc 3]) 32 3 (fun yg68 => [vG [vI (-1),vI 0,vO,vO],vB y69,vB y69,vG [vI 100,vI 0,vO,vO],vB y71,vB (cond y69 y71 false),vB (cond y69 y71 false),.slice (yg68 7 0).a q74.length (yg68 7 0).c,vG [vI 0,vI 0,.slice (yg68 7 0).a q74.length (yg68 7 0).c,vO],vB y77,vB (cond (cond y69 y71 false) y77 false),vB (cond (cond y69 y71 false) y77 false),vS (toB (List.replicate ((20001 : Int)).toNat (0 : Int))),vK (yg68 13 0) 1,vG [vI 0,vI 0,vK (yg68 13 0) 1,vO],vB y81,vB (cond (cond (cond y69 y71 false) y77 false) y81 false),vB (cond (cond (cond y69 y71 false) y77 false) y81 false),vS (toB (List.replicate ((20001 : Int)).toNat (0 : Int))),vS (sub (toB (List.replicate ((20001 : Int)).toNat (0 : Int))) 0 10000),vS (toB (List.replicate ((20001 : Int)).toNat (0 : Int))),vS (sub (toB (List.replicate ((20001 : Int)).toNat (0 : Int))) 0 10001),vK (yg68 22 0) 2,vG [vI 0,vI 0,vK (yg68 22 0) 2,vO],vB y87,vB (cond (cond (cond (cond y69 y71 false) y77 false) y81 false) y87 false),vB (cond (cond (cond (cond y69 y71 false) y77 false) y81 false) y87 false),.slice (yg68 27 0).a q89.length (yg68 27 0).c,vG [vI 0,vI 0,vO,.slice (yg68 27 0).a q89.length (yg68 27 0).c],vB y92,vB (cond (cond (cond (cond (cond y69 y71 false) y77 false) y81 false) y87 false) y92 false),vB (cond (cond (cond (cond (cond y69 y71 false) y77 false) y81 false) y87 false) y92 false)]) (fun yg68 => [[],[],[],[],[],[],[],[eO 9 tS q74 (yg68 7 0)],[],[],[],[],[],[eO 9 tS ([toB (List.replicate ((20001 : Int)).toNat (0 : Int))] : List Str) (yg68 13 0)],[],[],[],[],[],[],[],[],[eO 9 tS ([sub (toB (List.replicate ((20001 : Int)).toNat (0 : Int))) 0 10000,sub (toB (List.replicate ((20001 : Int)).toNat (0 : Int))) 0 10001] : List Str) (yg68 22 0)],[],[],[],[],[eO 3 (tI .i64) q89 (yg68 27 0)],[],[],[],[]]) [[],[32],[],[],[32],[],[],[],[7],[7,32],[],[],[],[],[13],[13,32],[],[],[],[],[],[],[],[22],[22,32],[],[],[],[27],[27,32],[],[]] [[],[],[],[],[],[],[],[],[],[],[],[],[],[],[],[],[],[],[],[],[],[],[],[],[],[],[],[],[],[],[],[]] [[0],[0,1],[0,1,2],[0,1,2,3],[0,1,2,3,4],[0,1,2,3,4,5],[0,1,2,3,4,5,6],[0,1,2,3,4,5,6,7],[0,1,2,3,4,5,6,7,8],[0,1,2,3,4,5,6,7,8,9],[0,1,2,3,4,5,6,7,8,9,10],[0,1,2,3,4,5,6,7,8,9,10,11],[0,1,2,3,4,5,6,7,8,9,10,11,12],[0,1,2,3,4,5,6,7,8,9,10,11,12,13],[0,1,2,3,4,5,6,7,8,9,10,11,12,13,14],[0,1,2,3,4,5,6,7,8,9,10,11,12,13,14,15],[0,1,2,3,4,5,6,7,8,9,10,11,12,13,14,15,16],[0,1,2,3,4,5,6,7,8,9,10,11,12,13,14,15,16,17],[0,1,2,3,4,5,6,7,8,9,10,11,12,13,14,15,16,17,18],[0,1,2,3,4,5,6,7,8,9,10,11,12,13,14,15,16,17,18,19],[0,1,2,3,4,5,6,7,8,9,10,11,12,13,14,15,16,17,20],[0,1,2,3,4,5,6,7,8,9,10,11,12,13,14,15,16,17,20,21],[0,1,2,3,4,5,6,7,8,9,10,11,12,13,14,15,16,17,18,19,20,21,22],[0,1,2,3,4,5,6,7,8,9,10,11,12,13,14,15,16,17,18,19,20,21,22,23],[0,1,2,3,4,5,6,7,8,9,10,11,12,13,14,15,16,17,18,19,20,21,22,23,24],[0,1,2,3,4,5,6,7,8,9,10,11,12,13,14,15,16,17,18,19,20,21,22,23,24,25],[0,1,2,3,4,5,6,7,8,9,10,11,12,13,14,15,16,17,18,19,20,21,22,23,24,25,26],[0,1,2,3,4,5,6,7,8,9,10,11,12,13,14,15,16,17,18,19,20,21,22,23,24,25,26,27],[0,1,2,3,4,5,6,7,8,9,10,11,12,13,14,15,16,17,18,19,20,21,22,23,24,25,26,27,28],[0,1,2,3,4,5,6,7,8,9,10,11,12,13,14,15,16,17,18,19,20,21,22,23,24,25,26,27,28,29],[0,1,2,3,4,5,6,7,8,9,10,11,12,13,14,15,16,17,18,19,20,21,22,23,24,25,26,27,28,29,30],[0,1,2,3,4,5,6,7,8,9,10,11,12,13,14,15,16,17,18,19,20,21,22,23,24,25,26,27,28,29,30,31]] [] (FrG.keep (ks:=[1,2]) H (by kernel_rfl)) (fun _ _ h => by cases h) (by kernel_rfl) hS (by kernel_rfl) rfl rfl (by kernel_rfl) (by kernel_rfl) (by kernel_rfl) ⟨trivial,trivial,trivial,⟨by kernel_rfl,fun _ => congrArg Value.bool ho70⟩,⟨by kernel_rfl,fun _ => congrArg Value.bool ho70⟩,trivial,trivial,⟨by kernel_rfl,fun _ => congrArg Value.bool ho72⟩,⟨by kernel_rfl,fun _ => congrArg Value.bool ho72⟩,⟨by kernel_rfl,fun _ => congrArg Value.bool ho72⟩,trivial,trivial,⟨by kernel_rfl,fun _ => congrArg Value.bool ho78⟩,⟨by kernel_rfl,fun _ => congrArg Value.bool ho78⟩,⟨by kernel_rfl,fun _ => congrArg Value.bool ho78⟩,⟨by kernel_rfl,fun _ => congrArg Value.bool ho78⟩,trivial,trivial,⟨by kernel_rfl,fun _ => congrArg Value.bool ho82⟩,⟨by kernel_rfl,fun _ => congrArg Value.bool ho82⟩,⟨by kernel_rfl,fun _ => congrArg Value.bool ho82⟩,⟨by kernel_rfl,fun _ => congrArg Value.bool ho82⟩,⟨by kernel_rfl,fun _ => congrArg Value.bool ho82⟩,⟨by kernel_rfl,fun _ => congrArg Value.bool ho82⟩,⟨by kernel_rfl,fun _ => congrArg Value.bool ho82⟩,trivial,trivial,⟨by kernel_rfl,fun _ => congrArg Value.bool ho88⟩,⟨by kernel_rfl,fun _ => congrArg Value.bool ho88⟩,⟨by kernel_rfl,fun _ => congrArg Value.bool ho88⟩,trivial,trivial,trivial⟩ ?hloc_yg68 ?hstep_yg68 fun _ _ yg68 H94 hv hS => ?hK_yg68
  case hloc_yg68 => exact ⟨(fun _ _ _ _ => ⟨rfl,rfl⟩),(fun _ _ _ _ => ⟨rfl,rfl⟩),(fun _ _ _ _ => ⟨rfl,rfl⟩),(fun _ _ _ _ => ⟨rfl,rfl⟩),(fun _ _ _ _ => ⟨rfl,rfl⟩),(fun _ _ _ _ => ⟨rfl,rfl⟩),(fun _ _ _ _ => ⟨rfl,rfl⟩),(fun _ i g hi => lcG [7] (fun yg68 => (.slice (yg68 7 0).a q74.length (yg68 7 0).c,[eO 9 tS q74 (yg68 7 0)])) hi rfl),(fun _ i g hi => lcG [7] (fun yg68 => (vG [vI 0,vI 0,.slice (yg68 7 0).a q74.length (yg68 7 0).c,vO],[])) hi rfl),(fun _ _ _ _ => ⟨rfl,rfl⟩),(fun _ _ _ _ => ⟨rfl,rfl⟩),(fun _ _ _ _ => ⟨rfl,rfl⟩),(fun _ _ _ _ => ⟨rfl,rfl⟩),(fun _ i g hi => lcG [13] (fun yg68 => (vK (yg68 13 0) 1,[eO 9 tS ([toB (List.replicate ((20001 : Int)).toNat (0 : Int))] : List Str) (yg68 13 0)])) hi rfl),(fun _ i g hi => lcG [13] (fun yg68 => (vG [vI 0,vI 0,vK (yg68 13 0) 1,vO],[])) hi rfl),(fun _ _ _ _ => ⟨rfl,rfl⟩),(fun _ _ _ _ => ⟨rfl,rfl⟩),(fun _ _ _ _ => ⟨rfl,rfl⟩),(fun _ _ _ _ => ⟨rfl,rfl⟩),(fun _ _ _ _ => ⟨rfl,rfl⟩),(fun _ _ _ _ => ⟨rfl,rfl⟩),(fun _ _ _ _ => ⟨rfl,rfl⟩),(fun _ i g hi => lcG [22] (fun yg68 => (vK (yg68 22 0) 2,[eO 9 tS ([sub (toB (List.replicate ((20001 : Int)).toNat (0 : Int))) 0 10000,sub (toB (List.replicate ((20001 : Int)).toNat (0 : Int))) 0 10001] : List Str) (yg68 22 0)])) hi rfl),(fun _ i g hi => lcG [22] (fun yg68 => (vG [vI 0,vI 0,vK (yg68 22 0) 2,vO],[])) hi rfl),(fun _ _ _ _ => ⟨rfl,rfl⟩),(fun _ _ _ _ => ⟨rfl,rfl⟩),(fun _ _ _ _ => ⟨rfl,rfl⟩),(fun _ i g hi => lcG [27] (fun yg68 => (.slice (yg68 27 0).a q89.length (yg68 27 0).c,[eO 3 (tI .i64) q89 (yg68 27 0)])) hi rfl),(fun _ i g hi => lcG [27] (fun yg68 => (vG [vI 0,vI 0,vO,.slice (yg68 27 0).a q89.length (yg68 27 0).c],[])) hi rfl),(fun _ _ _ _ => ⟨rfl,rfl⟩),(fun _ _ _ _ => ⟨rfl,rfl⟩),(fun _ _ _ _ => ⟨rfl,rfl⟩),trivial⟩
  case hstep_yg68 =>
   refine ⟨?_,?_,?_,?_,?_,?_,?_,?_,?_,?_,?_,?_,?_,?_,?_,?_,?_,?_,?_,?_,?_,?_,?_,?_,?_,?_,?_,?_,?_,?_,?_,?_,trivial⟩
   ·intro o ho a w yg68 M Hb hv hO hS
    obtain rfl:=someE ho
    exact Stp.mono (o_evs [] (vG [vI (-1),vI 0,vO,vO]) none [] Hb rfl (by kernel_rfl) (fun q e => by cases e)) fun _ _ hq => ⟨gL [],fun _ _ => hq.1,(hS.below hq.2.below).sel [] rfl⟩
   ·intro o ho a w yg68 M Hb hv hO hS
    obtain rfl:=someE ho
    exact Stp.mono (o_evs [(vB y69)] (vB y69) (some (rB 25 [vG [vI (-1),vI 0,vO,vO]] (vB y69))) [] ((Hb).add (hv 0 (by decide) (by decide) 58 rfl)) rfl (by kernel_rfl) (fun q e => by cases e; exact (law40_bad_ok (g_a__0:=Gh.nil) (g_a__1:=Gh.nil) m _ _ hy69 _ (s0im (s0im (s0tab s0nil (hS.at 0 rfl)) (SlG.nil (M:=F0) (g:=Gh.nil))) (SlG.nil (M:=F0) (g:=Gh.nil)))))) fun _ _ hq => ⟨gL [],fun _ _ => hq.1,(hS.below hq.2.below).sel [0] rfl⟩
   ·intro o ho a w yg68 M Hb hv hO hS
    obtain rfl:=someE ho
    exact Stp.mono (o_evs [] (vB y69) none [] ((Hb).add (hv 1 (by decide) (by decide) 59 rfl)) rfl (by kernel_rfl) (fun q e => by cases e)) fun _ _ hq => ⟨gL [],fun _ _ => hq.1,(hS.below hq.2.below).sel [] rfl⟩
   ·intro o ho a w yg68 M Hb hv hO hS
    obtain rfl:=someE ho
    exact Stp.mono (o_evs [] (vG [vI 100,vI 0,vO,vO]) none [] Hb rfl (by kernel_rfl) (fun q e => by cases e)) fun _ _ hq => ⟨gL [],fun _ _ => hq.1,(hS.below hq.2.below).sel [] rfl⟩
   ·intro o ho a w yg68 M Hb hv hO hS
    obtain rfl:=someE ho
    exact Stp.mono (o_evs [(vB y71)] (vB y71) (some (rB 25 [vG [vI 100,vI 0,vO,vO]] (vB y71))) [] ((Hb).add (hv 3 (by decide) (by decide) 61 rfl)) rfl (by kernel_rfl) (fun q e => by cases e; exact (law40_bad_ok (g_a__0:=Gh.nil) (g_a__1:=Gh.nil) m _ _ hy71 _ (s0im (s0im (s0tab s0nil (hS.at 0 rfl)) (SlG.nil (M:=F0) (g:=Gh.nil))) (SlG.nil (M:=F0) (g:=Gh.nil)))))) fun _ _ hq => ⟨gL [],fun _ _ => hq.1,(hS.below hq.2.below).sel [0] rfl⟩
   ·intro o ho a w yg68 M Hb hv hO hS
    obtain rfl:=someE ho
    exact Stp.mono (o_evs [] (vB (cond y69 y71 false)) none [] (((Hb).add (hv 2 (by decide) (by decide) 60 rfl)).add (hv 4 (by decide) (by decide) 62 rfl)) rfl (by kernel_rfl) (fun q e => by cases e)) fun _ _ hq => ⟨gL [],fun _ _ => hq.1,(hS.below hq.2.below).sel [] rfl⟩
   ·intro o ho a w yg68 M Hb hv hO hS
    obtain rfl:=someE ho
    exact Stp.mono (o_evs [] (vB (cond y69 y71 false)) none [] ((Hb).add (hv 5 (by decide) (by decide) 63 rfl)) rfl (by kernel_rfl) (fun q e => by cases e)) fun _ _ hq => ⟨gL [],fun _ _ => hq.1,(hS.below hq.2.below).sel [] rfl⟩
   ·intro o ho a w yg68 M Hb hv hO hS0
    obtain rfl:=someE ho
    have H : Fr 382 ([] ++ (fS [1,2] [vS (toB (List.replicate ((20001 : Int)).toNat (0 : Int))),vB z10])) _:=Hb
    obtain ⟨X,hX⟩ : ∃ X,X = fpl []:=⟨_,rfl⟩
    have hS : SH M X w [] w:=by rw [hX]; exact hS0
    have hd:=hS.hand [] [] rfl rfl
    refine Stp.mono (o_make (T:=tS) (E:=9) (zv:=vN) ([] : Str) H hd rfl rfl (by kernel_rfl) (by kernel_rfl) rfl rfl (fun _ _ => trivial) ho73) ?_
    rintro v w2 hq
    obtain ⟨g75,hv,hq⟩:=hq
    rw [← hq74] at hv hq
    subst hv
    replace hS : SH M X w [eO 9 tS q74 g75] _:=hS.join [] [] rfl rfl hq
    clear hq
    rw [hX] at hS
    exact ⟨gL [g75],fun _ _ => rfl,hS.sel [0] rfl⟩
   ·intro o ho a w yg68 M Hb hv hO hS
    obtain rfl:=someE ho
    exact Stp.mono (o_evs [] (vG [vI 0,vI 0,.slice (yg68 7 0).a q74.length (yg68 7 0).c,vO]) none [] ((Hb).add (hv 7 (by decide) (by decide) 65 rfl)) rfl (by kernel_rfl) (fun q e => by cases e)) fun _ _ hq => ⟨gL [],fun _ _ => hq.1,(hS.below hq.2.below).sel [0] rfl⟩
   ·intro o ho a w yg68 M Hb hv hO hS
    obtain rfl:=someE ho
    exact Stp.mono (o_evs [(vB y77)] (vB y77) (some (rB 25 [vG [vI 0,vI 0,.slice (yg68 7 0).a q74.length (yg68 7 0).c,vO]] (vB y77))) [] ((Hb).add (hv 8 (by decide) (by decide) 66 rfl)) rfl (by kernel_rfl) (fun q e => by cases e; exact (law40_bad_ok (g_a__0:=(yg68 7 0)) (g_a__1:=Gh.nil) m _ _ hy77 _ (s0im (s0im (s0tab s0nil (hS.at 1 rfl)) (SlG.nil (M:=F0) (g:=Gh.nil))) (hS.osl 0 rfl))))) fun _ _ hq => ⟨gL [],fun _ _ => hq.1,(hS.below hq.2.below).sel [0,1] rfl⟩
   ·intro o ho a w yg68 M Hb hv hO hS
    obtain rfl:=someE ho
    exact Stp.mono (o_evs [] (vB (cond (cond y69 y71 false) y77 false)) none [] (((Hb).add (hv 6 (by decide) (by decide) 64 rfl)).add (hv 9 (by decide) (by decide) 67 rfl)) rfl (by kernel_rfl) (fun q e => by cases e)) fun _ _ hq => ⟨gL [],fun _ _ => hq.1,(hS.below hq.2.below).sel [] rfl⟩
   ·intro o ho a w yg68 M Hb hv hO hS
    obtain rfl:=someE ho
    exact Stp.mono (o_evs [] (vB (cond (cond y69 y71 false) y77 false)) none [] ((Hb).add (hv 10 (by decide) (by decide) 68 rfl)) rfl (by kernel_rfl) (fun q e => by cases e)) fun _ _ hq => ⟨gL [],fun _ _ => hq.1,(hS.below hq.2.below).sel [] rfl⟩
   ·intro o ho a w yg68 M Hb hv hO hS
    obtain rfl:=someE ho
    exact Stp.mono (o_evs [] (vS (toB (List.replicate ((20001 : Int)).toNat (0 : Int)))) none [] Hb rfl (by kernel_rfl) (fun q e => by cases e)) fun _ _ hq => ⟨gL [],fun _ _ => hq.1,(hS.below hq.2.below).sel [] rfl⟩
   ·intro o ho a w yg68 M Hb hv hO hS0
    obtain rfl:=someE ho
    have H : Fr 382 ([(70,[],vS (toB (List.replicate ((20001 : Int)).toNat (0 : Int))))] ++ (fS [1,2] [vS (toB (List.replicate ((20001 : Int)).toNat (0 : Int))),vB z10])) _:=(Hb).add (hv 12 (by decide) (by decide) 70 rfl)
    obtain ⟨X,hX⟩ : ∃ X,X = fpl []:=⟨_,rfl⟩
    have hS : SH M X w [] w:=by rw [hX]; exact hS0
    have hd:=hS.hand [] [] rfl rfl
    refine Stp.mono (o_lit (T:=tS) (E:=9) (zv:=vN) [vS (toB (List.replicate ((20001 : Int)).toNat (0 : Int)))] ([toB (List.replicate ((20001 : Int)).toNat (0 : Int))] : List Str) [gL []] _ H hd rfl (by kernel_rfl) (by kernel_rfl) (by kernel_rfl) (by kernel_rfl) (by kernel_rfl) (by kernel_rfl) (by kernel_rfl) rfl (InnL.cons trivial InnL.nil)) ?_
    rintro v w2 hq
    obtain ⟨g79,rfl,hq⟩:=hq
    replace hS : SH M X w [eO 9 tS ([toB (List.replicate ((20001 : Int)).toNat (0 : Int))] : List Str) g79] _:=hS.join [] [] rfl rfl hq
    clear hq
    rw [hX] at hS
    exact ⟨gL [g79],fun _ _ => rfl,hS.sel [0] rfl⟩
   ·intro o ho a w yg68 M Hb hv hO hS
    obtain rfl:=someE ho
    exact Stp.mono (o_evs [] (vG [vI 0,vI 0,vK (yg68 13 0) 1,vO]) none [] ((Hb).add (hv 13 (by decide) (by decide) 71 rfl)) rfl (by kernel_rfl) (fun q e => by cases e)) fun _ _ hq => ⟨gL [],fun _ _ => hq.1,(hS.below hq.2.below).sel [0] rfl⟩
   ·intro o ho a w yg68 M Hb hv hO hS
    obtain rfl:=someE ho
    exact Stp.mono (o_evs [(vB y81)] (vB y81) (some (rB 25 [vG [vI 0,vI 0,vK (yg68 13 0) 1,vO]] (vB y81))) [] ((Hb).add (hv 14 (by decide) (by decide) 72 rfl)) rfl (by kernel_rfl) (fun q e => by cases e; exact (law40_bad_ok (g_a__0:=(yg68 13 0)) (g_a__1:=Gh.nil) m _ _ hy81 _ (s0im (s0im (s0tab s0nil (hS.at 1 rfl)) (SlG.nil (M:=F0) (g:=Gh.nil))) (hS.osl 0 rfl))))) fun _ _ hq => ⟨gL [],fun _ _ => hq.1,(hS.below hq.2.below).sel [0,1] rfl⟩
   ·intro o ho a w yg68 M Hb hv hO hS
    obtain rfl:=someE ho
    exact Stp.mono (o_evs [] (vB (cond (cond (cond y69 y71 false) y77 false) y81 false)) none [] (((Hb).add (hv 11 (by decide) (by decide) 69 rfl)).add (hv 15 (by decide) (by decide) 73 rfl)) rfl (by kernel_rfl) (fun q e => by cases e)) fun _ _ hq => ⟨gL [],fun _ _ => hq.1,(hS.below hq.2.below).sel [] rfl⟩
   ·intro o ho a w yg68 M Hb hv hO hS
    obtain rfl:=someE ho
    exact Stp.mono (o_evs [] (vB (cond (cond (cond y69 y71 false) y77 false) y81 false)) none [] ((Hb).add (hv 16 (by decide) (by decide) 74 rfl)) rfl (by kernel_rfl) (fun q e => by cases e)) fun _ _ hq => ⟨gL [],fun _ _ => hq.1,(hS.below hq.2.below).sel [] rfl⟩
   ·intro o ho a w yg68 M Hb hv hO hS
    obtain rfl:=someE ho
    exact Stp.mono (o_evs [] (vS (toB (List.replicate ((20001 : Int)).toNat (0 : Int)))) none [] Hb rfl (by kernel_rfl) (fun q e => by cases e)) fun _ _ hq => ⟨gL [],fun _ _ => hq.1,(hS.below hq.2.below).sel [] rfl⟩
   ·intro o ho a w yg68 M Hb hv hO hS
    obtain rfl:=someE ho
    exact Stp.mono (o_evs [] (vS (sub (toB (List.replicate ((20001 : Int)).toNat (0 : Int))) 0 10000)) (some (fun _ => 0 ≤ (10000 : Int) ∧ (10000 : Int) ≤ ln (toB (List.replicate ((20001 : Int)).toNat (0 : Int))))) [] ((Hb).add (hv 18 (by decide) (by decide) 76 rfl)) rfl (by kernel_rfl) (fun q e => by cases e; exact ho83)) fun _ _ hq => ⟨gL [],fun _ _ => hq.1,(hS.below hq.2.below).sel [] rfl⟩
   ·intro o ho a w yg68 M Hb hv hO hS
    obtain rfl:=someE ho
    exact Stp.mono (o_evs [] (vS (toB (List.replicate ((20001 : Int)).toNat (0 : Int)))) none [] Hb rfl (by kernel_rfl) (fun q e => by cases e)) fun _ _ hq => ⟨gL [],fun _ _ => hq.1,(hS.below hq.2.below).sel [] rfl⟩
   ·intro o ho a w yg68 M Hb hv hO hS
    obtain rfl:=someE ho
    exact Stp.mono (o_evs [] (vS (sub (toB (List.replicate ((20001 : Int)).toNat (0 : Int))) 0 10001)) (some (fun _ => 0 ≤ (10001 : Int) ∧ (10001 : Int) ≤ ln (toB (List.replicate ((20001 : Int)).toNat (0 : Int))))) [] ((Hb).add (hv 20 (by decide) (by decide) 78 rfl)) rfl (by kernel_rfl) (fun q e => by cases e; exact ho84)) fun _ _ hq => ⟨gL [],fun _ _ => hq.1,(hS.below hq.2.below).sel [] rfl⟩
   ·intro o ho a w yg68 M Hb hv hO hS0
    obtain rfl:=someE ho
    have H : Fr 382 ((fS [79,77] [vS (sub (toB (List.replicate ((20001 : Int)).toNat (0 : Int))) 0 10001),vS (sub (toB (List.replicate ((20001 : Int)).toNat (0 : Int))) 0 10000)]) ++ (fS [1,2] [vS (toB (List.replicate ((20001 : Int)).toNat (0 : Int))),vB z10])) _:=((Hb).add (hv 19 (by decide) (by decide) 77 rfl)).add (hv 21 (by decide) (by decide) 79 rfl)
    obtain ⟨X,hX⟩ : ∃ X,X = fpl []:=⟨_,rfl⟩
    have hS : SH M X w [] w:=by rw [hX]; exact hS0
    have hd:=hS.hand [] [] rfl rfl
    refine Stp.mono (o_lit (T:=tS) (E:=9) (zv:=vN) [vS (sub (toB (List.replicate ((20001 : Int)).toNat (0 : Int))) 0 10000),vS (sub (toB (List.replicate ((20001 : Int)).toNat (0 : Int))) 0 10001)] ([sub (toB (List.replicate ((20001 : Int)).toNat (0 : Int))) 0 10000,sub (toB (List.replicate ((20001 : Int)).toNat (0 : Int))) 0 10001] : List Str) [gL [],gL []] _ H hd rfl (by kernel_rfl) (by kernel_rfl) (by kernel_rfl) (by kernel_rfl) (by kernel_rfl) (by kernel_rfl) (by kernel_rfl) rfl (InnL.cons trivial (InnL.cons trivial InnL.nil))) ?_
    rintro v w2 hq
    obtain ⟨g85,rfl,hq⟩:=hq
    replace hS : SH M X w [eO 9 tS ([sub (toB (List.replicate ((20001 : Int)).toNat (0 : Int))) 0 10000,sub (toB (List.replicate ((20001 : Int)).toNat (0 : Int))) 0 10001] : List Str) g85] _:=hS.join [] [] rfl rfl hq
    clear hq
    rw [hX] at hS
    exact ⟨gL [g85],fun _ _ => rfl,hS.sel [0] rfl⟩
   ·intro o ho a w yg68 M Hb hv hO hS
    obtain rfl:=someE ho
    exact Stp.mono (o_evs [] (vG [vI 0,vI 0,vK (yg68 22 0) 2,vO]) none [] ((Hb).add (hv 22 (by decide) (by decide) 80 rfl)) rfl (by kernel_rfl) (fun q e => by cases e)) fun _ _ hq => ⟨gL [],fun _ _ => hq.1,(hS.below hq.2.below).sel [0] rfl⟩
   ·intro o ho a w yg68 M Hb hv hO hS
    obtain rfl:=someE ho
    exact Stp.mono (o_evs [(vB y87)] (vB y87) (some (rB 25 [vG [vI 0,vI 0,vK (yg68 22 0) 2,vO]] (vB y87))) [] ((Hb).add (hv 23 (by decide) (by decide) 81 rfl)) rfl (by kernel_rfl) (fun q e => by cases e; exact (law40_bad_ok (g_a__0:=(yg68 22 0)) (g_a__1:=Gh.nil) m _ _ hy87 _ (s0im (s0im (s0tab s0nil (hS.at 1 rfl)) (SlG.nil (M:=F0) (g:=Gh.nil))) (hS.osl 0 rfl))))) fun _ _ hq => ⟨gL [],fun _ _ => hq.1,(hS.below hq.2.below).sel [0,1] rfl⟩
   ·intro o ho a w yg68 M Hb hv hO hS
    obtain rfl:=someE ho
    exact Stp.mono (o_evs [] (vB (cond (cond (cond (cond y69 y71 false) y77 false) y81 false) y87 false)) none [] (((Hb).add (hv 17 (by decide) (by decide) 75 rfl)).add (hv 24 (by decide) (by decide) 82 rfl)) rfl (by kernel_rfl) (fun q e => by cases e)) fun _ _ hq => ⟨gL [],fun _ _ => hq.1,(hS.below hq.2.below).sel [] rfl⟩
   ·intro o ho a w yg68 M Hb hv hO hS
    obtain rfl:=someE ho
    exact Stp.mono (o_evs [] (vB (cond (cond (cond (cond y69 y71 false) y77 false) y81 false) y87 false)) none [] ((Hb).add (hv 25 (by decide) (by decide) 83 rfl)) rfl (by kernel_rfl) (fun q e => by cases e)) fun _ _ hq => ⟨gL [],fun _ _ => hq.1,(hS.below hq.2.below).sel [] rfl⟩
   ·intro o ho a w yg68 M Hb hv hO hS0
    obtain rfl:=someE ho
    have H : Fr 382 ([] ++ (fS [1,2] [vS (toB (List.replicate ((20001 : Int)).toNat (0 : Int))),vB z10])) _:=Hb
    obtain ⟨X,hX⟩ : ∃ X,X = fpl []:=⟨_,rfl⟩
    have hS : SH M X w [] w:=by rw [hX]; exact hS0
    have hd:=hS.hand [] [] rfl rfl
    refine Stp.mono (o_make (T:=(tI .i64)) (E:=3) (zv:=vI 0) (0 : Int) H hd rfl rfl (by kernel_rfl) (by kernel_rfl) rfl rfl (fun _ _ => trivial) ho73) ?_
    rintro v w2 hq
    obtain ⟨g90,hv,hq⟩:=hq
    rw [← hq89] at hv hq
    subst hv
    replace hS : SH M X w [eO 3 (tI .i64) q89 g90] _:=hS.join [] [] rfl rfl hq
    clear hq
    rw [hX] at hS
    exact ⟨gL [g90],fun _ _ => rfl,hS.sel [0] rfl⟩
   ·intro o ho a w yg68 M Hb hv hO hS
    obtain rfl:=someE ho
    exact Stp.mono (o_evs [] (vG [vI 0,vI 0,vO,.slice (yg68 27 0).a q89.length (yg68 27 0).c]) none [] ((Hb).add (hv 27 (by decide) (by decide) 85 rfl)) rfl (by kernel_rfl) (fun q e => by cases e)) fun _ _ hq => ⟨gL [],fun _ _ => hq.1,(hS.below hq.2.below).sel [0] rfl⟩
   ·intro o ho a w yg68 M Hb hv hO hS
    obtain rfl:=someE ho
    exact Stp.mono (o_evs [(vB y92)] (vB y92) (some (rB 25 [vG [vI 0,vI 0,vO,.slice (yg68 27 0).a q89.length (yg68 27 0).c]] (vB y92))) [] ((Hb).add (hv 28 (by decide) (by decide) 86 rfl)) rfl (by kernel_rfl) (fun q e => by cases e; exact (law40_bad_ok (g_a__0:=Gh.nil) (g_a__1:=(yg68 27 0)) m _ _ hy92 _ (s0im (s0im (s0tab s0nil (hS.at 1 rfl)) (hS.osl 0 rfl)) (SlG.nil (M:=F0) (g:=Gh.nil)))))) fun _ _ hq => ⟨gL [],fun _ _ => hq.1,(hS.below hq.2.below).sel [0,1] rfl⟩
   ·intro o ho a w yg68 M Hb hv hO hS
    obtain rfl:=someE ho
    exact Stp.mono (o_evs [] (vB (cond (cond (cond (cond (cond y69 y71 false) y77 false) y81 false) y87 false) y92 false)) none [] (((Hb).add (hv 26 (by decide) (by decide) 84 rfl)).add (hv 29 (by decide) (by decide) 87 rfl)) rfl (by kernel_rfl) (fun q e => by cases e)) fun _ _ hq => ⟨gL [],fun _ _ => hq.1,(hS.below hq.2.below).sel [] rfl⟩
   ·intro o ho a w yg68 M Hb hv hO hS
    obtain rfl:=someE ho
    exact Stp.mono (o_evs [] (vB (cond (cond (cond (cond (cond y69 y71 false) y77 false) y81 false) y87 false) y92 false)) none [] ((Hb).add (hv 30 (by decide) (by decide) 88 rfl)) rfl (by kernel_rfl) (fun q e => by cases e)) fun _ _ hq => ⟨gL [],fun _ _ => hq.1,(hS.below hq.2.below).sel [] rfl⟩
  have H95 : Fr 382 (fS [3,1,2] [vB (cond (cond (cond (cond (cond y69 y71 false) y77 false) y81 false) y87 false) y92 false),vS (toB (List.replicate ((20001 : Int)).toNat (0 : Int))),vB z10]) _:=(FrG.add (FrG.keep (ks:=[1,2]) H94 (by kernel_rfl)) (hv 31 3 rfl))
  replace hS : SH M X w [eO 9 tS q74 (yg68 7 0),eO 9 tS ([toB (List.replicate ((20001 : Int)).toNat (0 : Int))] : List Str) (yg68 13 0),eO 9 tS ([sub (toB (List.replicate ((20001 : Int)).toNat (0 : Int))) 0 10000,sub (toB (List.replicate ((20001 : Int)).toNat (0 : Int))) 0 10001] : List Str) (yg68 22 0),eO 3 (tI .i64) q89 (yg68 27 0),Ent.tab 1 (Lib.pow10Tab.map fun z => Value.int .u64 z),Ent.gifc 2,Ent.gifc 3] _:=hS
  clear hv H94
  generalize yg68 7 0 = g96 at H95 hS
  generalize yg68 13 0 = g97 at H95 hS
  generalize yg68 22 0 = g98 at H95 hS
  generalize yg68 27 0 = g99 at H95 hS
  replace hS : SH M X w [Ent.tab 1 (Lib.pow10Tab.map fun z => Value.int .u64 z),Ent.gifc 2,Ent.gifc 3] _:=hS.sel [4,5,6] rfl
  obtain ⟨ho101,hm⟩:=chkE hm
  obtain ⟨q102,hq102,hm⟩:=letE hm
  obtain ⟨q105,hq105,hm⟩:=letE hm
  obtain ⟨y108,hy108,hm⟩:=bindE hm
  obtain ⟨ho109,hm⟩:=chkE hm
  obtain ⟨y112,hy112,hm⟩:=bindE hm
  refine s_drawS (base:=(fS [1,2,3] [vS (toB (List.replicate ((20001 : Int)).toNat (0 : Int))),vB z10,vB (cond (cond (cond (cond (cond y69 y71 false) y77 false) y81 false) y87 false) y92 false)])) (L:=[Ent.tab 1 (Lib.pow10Tab.map fun z => Value.int .u64 z),Ent.gifc 2,Ent.gifc 3]) 16 3 (fun yg100 => [.slice (yg100 0 0).a q102.length (yg100 0 0).c,.slice (yg100 1 0).a q105.length (yg100 1 0).c,vG [vI 0,vI 0,.slice (yg100 0 0).a q102.length (yg100 0 0).c,.slice (yg100 1 0).a q105.length (yg100 1 0).c],vI y108,vB (y108 == 0),vB (y108 == 0),vS (toB (List.replicate ((20001 : Int)).toNat (0 : Int))),vS (sub (toB (List.replicate ((20001 : Int)).toNat (0 : Int))) 0 10000),vS (toB (List.replicate ((20001 : Int)).toNat (0 : Int))),vS (sub (toB (List.replicate ((20001 : Int)).toNat (0 : Int))) 0 10000),vK (yg100 10 0) 2,vG [vI 0,vI 0,vK (yg100 10 0) 2,vO],vI y112,vB (y112 == 0),vB (cond (y108 == 0) (y112 == 0) false),vB (cond (y108 == 0) (y112 == 0) false)]) (fun yg100 => [[eO 9 tS q102 (yg100 0 0)],[eO 3 (tI .i64) q105 (yg100 1 0)],[],[],[],[],[],[],[],[],[eO 9 tS ([sub (toB (List.replicate ((20001 : Int)).toNat (0 : Int))) 0 10000,sub (toB (List.replicate ((20001 : Int)).toNat (0 : Int))) 0 10000] : List Str) (yg100 10 0)],[],[],[],[],[]]) [[],[],[0,1],[0,1],[],[],[],[],[],[],[],[10],[10],[],[],[]] [[],[],[],[],[],[],[],[],[],[],[],[],[],[],[],[]] [[0],[1],[0,1,2],[0,1,2,3],[0,1,2,3,4],[0,1,2,3,4,5],[0,1,2,3,4,5,6],[0,1,2,3,4,5,6,7],[0,1,2,3,4,5,8],[0,1,2,3,4,5,8,9],[0,1,2,3,4,5,6,7,8,9,10],[0,1,2,3,4,5,6,7,8,9,10,11],[0,1,2,3,4,5,6,7,8,9,10,11,12],[0,1,2,3,4,5,6,7,8,9,10,11,12,13],[0,1,2,3,4,5,6,7,8,9,10,11,12,13,14],[0,1,2,3,4,5,6,7,8,9,10,11,12,13,14,15]] [] (FrG.keep (ks:=[1,2,3]) H95 (by kernel_rfl)) (fun _ _ h => by cases h) (by kernel_rfl) hS (by kernel_rfl) rfl rfl (by kernel_rfl) (by kernel_rfl) (by kernel_rfl) ⟨trivial,trivial,trivial,trivial,trivial,trivial,⟨by kernel_rfl,fun _ => congrArg Value.bool ho109⟩,⟨by kernel_rfl,fun _ => congrArg Value.bool ho109⟩,⟨by kernel_rfl,fun _ => congrArg Value.bool ho109⟩,⟨by kernel_rfl,fun _ => congrArg Value.bool ho109⟩,⟨by kernel_rfl,fun _ => congrArg Value.bool ho109⟩,⟨by kernel_rfl,fun _ => congrArg Value.bool ho109⟩,⟨by kernel_rfl,fun _ => congrArg Value.bool ho109⟩,⟨by kernel_rfl,fun _ => congrArg Value.bool ho109⟩,trivial,trivial,trivial⟩ ?hloc_yg100 ?hstep_yg100 fun _ _ yg100 H114 hv hS => ?hK_yg100
  case hloc_yg100 => exact ⟨(fun _ i g hi => lcG [0] (fun yg100 => (.slice (yg100 0 0).a q102.length (yg100 0 0).c,[eO 9 tS q102 (yg100 0 0)])) hi rfl),(fun _ i g hi => lcG [1] (fun yg100 => (.slice (yg100 1 0).a q105.length (yg100 1 0).c,[eO 3 (tI .i64) q105 (yg100 1 0)])) hi rfl),(fun _ i g hi => lcG [0,1] (fun yg100 => (vG [vI 0,vI 0,.slice (yg100 0 0).a q102.length (yg100 0 0).c,.slice (yg100 1 0).a q105.length (yg100 1 0).c],[])) hi rfl),(fun _ _ _ _ => ⟨rfl,rfl⟩),(fun _ _ _ _ => ⟨rfl,rfl⟩),(fun _ _ _ _ => ⟨rfl,rfl⟩),(fun _ _ _ _ => ⟨rfl,rfl⟩),(fun _ _ _ _ => ⟨rfl,rfl⟩),(fun _ _ _ _ => ⟨rfl,rfl⟩),(fun _ _ _ _ => ⟨rfl,rfl⟩),(fun _ i g hi => lcG [10] (fun yg100 => (vK (yg100 10 0) 2,[eO 9 tS ([sub (toB (List.replicate ((20001 : Int)).toNat (0 : Int))) 0 10000,sub (toB (List.replicate ((20001 : Int)).toNat (0 : Int))) 0 10000] : List Str) (yg100 10 0)])) hi rfl),(fun _ i g hi => lcG [10] (fun yg100 => (vG [vI 0,vI 0,vK (yg100 10 0) 2,vO],[])) hi rfl),(fun _ _ _ _ => ⟨rfl,rfl⟩),(fun _ _ _ _ => ⟨rfl,rfl⟩),(fun _ _ _ _ => ⟨rfl,rfl⟩),(fun _ _ _ _ => ⟨rfl,rfl⟩),trivial⟩
  case hstep_yg100 =>
   refine ⟨?_,?_,?_,?_,?_,?_,?_,?_,?_,?_,?_,?_,?_,?_,?_,?_,trivial⟩
   ·intro o ho a w yg100 M Hb hv hO hS0
    obtain rfl:=someE ho
    have H : Fr 382 ([] ++ (fS [1,2,3] [vS (toB (List.replicate ((20001 : Int)).toNat (0 : Int))),vB z10,vB (cond (cond (cond (cond (cond y69 y71 false) y77 false) y81 false) y87 false) y92 false)])) _:=Hb
    obtain ⟨X,hX⟩ : ∃ X,X = fpl []:=⟨_,rfl⟩
    have hS : SH M X w [] w:=by rw [hX]; exact hS0
    have hd:=hS.hand [] [] rfl rfl
    refine Stp.mono (o_make (T:=tS) (E:=9) (zv:=vN) ([] : Str) H hd rfl rfl (by kernel_rfl) (by kernel_rfl) rfl rfl (fun _ _ => trivial) ho101) ?_
    rintro v w2 hq
    obtain ⟨g103,hv,hq⟩:=hq
    rw [← hq102] at hv hq
    subst hv
    replace hS : SH M X w [eO 9 tS q102 g103] _:=hS.join [] [] rfl rfl hq
    clear hq
    rw [hX] at hS
    exact ⟨gL [g103],fun _ _ => rfl,hS.sel [0] rfl⟩
   ·intro o ho a w yg100 M Hb hv hO hS0
    obtain rfl:=someE ho
    have H : Fr 382 ([] ++ (fS [1,2,3] [vS (toB (List.replicate ((20001 : Int)).toNat (0 : Int))),vB z10,vB (cond (cond (cond (cond (cond y69 y71 false) y77 false) y81 false) y87 false) y92 false)])) _:=Hb
    obtain ⟨X,hX⟩ : ∃ X,X = fpl []:=⟨_,rfl⟩
    have hS : SH M X w [] w:=by rw [hX]; exact hS0
    have hd:=hS.hand [] [] rfl rfl
    refine Stp.mono (o_make (T:=(tI .i64)) (E:=3) (zv:=vI 0) (0 : Int) H hd rfl rfl (by kernel_rfl) (by kernel_rfl) rfl rfl (fun _ _ => trivial) ho101) ?_
    rintro v w2 hq
    obtain ⟨g106,hv,hq⟩:=hq
    rw [← hq105] at hv hq
    subst hv
    replace hS : SH M X w [eO 3 (tI .i64) q105 g106] _:=hS.join [] [] rfl rfl hq
    clear hq
    rw [hX] at hS
    exact ⟨gL [g106],fun _ _ => rfl,hS.sel [0] rfl⟩
   ·intro o ho a w yg100 M Hb hv hO hS
    obtain rfl:=someE ho
    exact Stp.mono (o_evs [] (vG [vI 0,vI 0,.slice (yg100 0 0).a q102.length (yg100 0 0).c,.slice (yg100 1 0).a q105.length (yg100 1 0).c]) none [] (((Hb).add (hv 0 (by decide) (by decide) 89 rfl)).add (hv 1 (by decide) (by decide) 90 rfl)) rfl (by kernel_rfl) (fun q e => by cases e)) fun _ _ hq => ⟨gL [],fun _ _ => hq.1,(hS.below hq.2.below).sel [0,1] rfl⟩
   ·intro o ho a w yg100 M Hb hv hO hS
    obtain rfl:=someE ho
    exact Stp.mono (o_evs [(vI y108)] (vI y108) (some (rB 13 [vG [vI 0,vI 0,.slice (yg100 0 0).a q102.length (yg100 0 0).c,.slice (yg100 1 0).a q105.length (yg100 1 0).c]] (vI y108))) [] ((Hb).add (hv 2 (by decide) (by decide) 91 rfl)) rfl (by kernel_rfl) (fun q e => by cases e; exact (answer_Check_ok (g_a__0:=(yg100 0 0)) (g_a__1:=(yg100 1 0)) m _ _ hy108 _ (s0im (s0im s0nil (hS.osl 1 rfl)) (hS.osl 0 rfl))))) fun _ _ hq => ⟨gL [],fun _ _ => hq.1,(hS.below hq.2.below).sel [0,1] rfl⟩
   ·intro o ho a w yg100 M Hb hv hO hS
    obtain rfl:=someE ho
    exact Stp.mono (o_evs [] (vB (y108 == 0)) none [] ((Hb).add (hv 3 (by decide) (by decide) 92 rfl)) rfl (by kernel_rfl) (fun q e => by cases e)) fun _ _ hq => ⟨gL [],fun _ _ => hq.1,(hS.below hq.2.below).sel [] rfl⟩
   ·intro o ho a w yg100 M Hb hv hO hS
    obtain rfl:=someE ho
    exact Stp.mono (o_evs [] (vB (y108 == 0)) none [] ((Hb).add (hv 4 (by decide) (by decide) 93 rfl)) rfl (by kernel_rfl) (fun q e => by cases e)) fun _ _ hq => ⟨gL [],fun _ _ => hq.1,(hS.below hq.2.below).sel [] rfl⟩
   ·intro o ho a w yg100 M Hb hv hO hS
    obtain rfl:=someE ho
    exact Stp.mono (o_evs [] (vS (toB (List.replicate ((20001 : Int)).toNat (0 : Int)))) none [] Hb rfl (by kernel_rfl) (fun q e => by cases e)) fun _ _ hq => ⟨gL [],fun _ _ => hq.1,(hS.below hq.2.below).sel [] rfl⟩
   ·intro o ho a w yg100 M Hb hv hO hS
    obtain rfl:=someE ho
    exact Stp.mono (o_evs [] (vS (sub (toB (List.replicate ((20001 : Int)).toNat (0 : Int))) 0 10000)) (some (fun _ => 0 ≤ (10000 : Int) ∧ (10000 : Int) ≤ ln (toB (List.replicate ((20001 : Int)).toNat (0 : Int))))) [] ((Hb).add (hv 6 (by decide) (by decide) 95 rfl)) rfl (by kernel_rfl) (fun q e => by cases e; exact ho83)) fun _ _ hq => ⟨gL [],fun _ _ => hq.1,(hS.below hq.2.below).sel [] rfl⟩
   ·intro o ho a w yg100 M Hb hv hO hS
    obtain rfl:=someE ho
    exact Stp.mono (o_evs [] (vS (toB (List.replicate ((20001 : Int)).toNat (0 : Int)))) none [] Hb rfl (by kernel_rfl) (fun q e => by cases e)) fun _ _ hq => ⟨gL [],fun _ _ => hq.1,(hS.below hq.2.below).sel [] rfl⟩
   ·intro o ho a w yg100 M Hb hv hO hS
    obtain rfl:=someE ho
    exact Stp.mono (o_evs [] (vS (sub (toB (List.replicate ((20001 : Int)).toNat (0 : Int))) 0 10000)) (some (fun _ => 0 ≤ (10000 : Int) ∧ (10000 : Int) ≤ ln (toB (List.replicate ((20001 : Int)).toNat (0 : Int))))) [] ((Hb).add (hv 8 (by decide) (by decide) 97 rfl)) rfl (by kernel_rfl) (fun q e => by cases e; exact ho83)) fun _ _ hq => ⟨gL [],fun _ _ => hq.1,(hS.below hq.2.below).sel [] rfl⟩
   ·intro o ho a w yg100 M Hb hv hO hS0
    obtain rfl:=someE ho
    have H : Fr 382 ((fS [98,96] [vS (sub (toB (List.replicate ((20001 : Int)).toNat (0 : Int))) 0 10000),vS (sub (toB (List.replicate ((20001 : Int)).toNat (0 : Int))) 0 10000)]) ++ (fS [1,2,3] [vS (toB (List.replicate ((20001 : Int)).toNat (0 : Int))),vB z10,vB (cond (cond (cond (cond (cond y69 y71 false) y77 false) y81 false) y87 false) y92 false)])) _:=((Hb).add (hv 7 (by decide) (by decide) 96 rfl)).add (hv 9 (by decide) (by decide) 98 rfl)
    obtain ⟨X,hX⟩ : ∃ X,X = fpl []:=⟨_,rfl⟩
    have hS : SH M X w [] w:=by rw [hX]; exact hS0
    have hd:=hS.hand [] [] rfl rfl
    refine Stp.mono (o_lit (T:=tS) (E:=9) (zv:=vN) [vS (sub (toB (List.replicate ((20001 : Int)).toNat (0 : Int))) 0 10000),vS (sub (toB (List.replicate ((20001 : Int)).toNat (0 : Int))) 0 10000)] ([sub (toB (List.replicate ((20001 : Int)).toNat (0 : Int))) 0 10000,sub (toB (List.replicate ((20001 : Int)).toNat (0 : Int))) 0 10000] : List Str) [gL [],gL []] _ H hd rfl (by kernel_rfl) (by kernel_rfl) (by kernel_rfl) (by kernel_rfl) (by kernel_rfl) (by kernel_rfl) (by kernel_rfl) rfl (InnL.cons trivial (InnL.cons trivial InnL.nil))) ?_
    rintro v w2 hq
    obtain ⟨g110,rfl,hq⟩:=hq
    replace hS : SH M X w [eO 9 tS ([sub (toB (List.replicate ((20001 : Int)).toNat (0 : Int))) 0 10000,sub (toB (List.replicate ((20001 : Int)).toNat (0 : Int))) 0 10000] : List Str) g110] _:=hS.join [] [] rfl rfl hq
    clear hq
    rw [hX] at hS
    exact ⟨gL [g110],fun _ _ => rfl,hS.sel [0] rfl⟩
   ·intro o ho a w yg100 M Hb hv hO hS
    obtain rfl:=someE ho
    exact Stp.mono (o_evs [] (vG [vI 0,vI 0,vK (yg100 10 0) 2,vO]) none [] ((Hb).add (hv 10 (by decide) (by decide) 99 rfl)) rfl (by kernel_rfl) (fun q e => by cases e)) fun _ _ hq => ⟨gL [],fun _ _ => hq.1,(hS.below hq.2.below).sel [0] rfl⟩
   ·intro o ho a w yg100 M Hb hv hO hS
    obtain rfl:=someE ho
    exact Stp.mono (o_evs [(vI y112)] (vI y112) (some (rB 13 [vG [vI 0,vI 0,vK (yg100 10 0) 2,vO]] (vI y112))) [] ((Hb).add (hv 11 (by decide) (by decide) 100 rfl)) rfl (by kernel_rfl) (fun q e => by cases e; exact (answer_Check_ok (g_a__0:=(yg100 10 0)) (g_a__1:=Gh.nil) m _ _ hy112 _ (s0im (s0im s0nil (SlG.nil (M:=F0) (g:=Gh.nil))) (hS.osl 0 rfl))))) fun _ _ hq => ⟨gL [],fun _ _ => hq.1,(hS.below hq.2.below).sel [0] rfl⟩
   ·intro o ho a w yg100 M Hb hv hO hS
    obtain rfl:=someE ho
    exact Stp.mono (o_evs [] (vB (y112 == 0)) none [] ((Hb).add (hv 12 (by decide) (by decide) 101 rfl)) rfl (by kernel_rfl) (fun q e => by cases e)) fun _ _ hq => ⟨gL [],fun _ _ => hq.1,(hS.below hq.2.below).sel [] rfl⟩
   ·intro o ho a w yg100 M Hb hv hO hS
    obtain rfl:=someE ho
    exact Stp.mono (o_evs [] (vB (cond (y108 == 0) (y112 == 0) false)) none [] (((Hb).add (hv 5 (by decide) (by decide) 94 rfl)).add (hv 13 (by decide) (by decide) 102 rfl)) rfl (by kernel_rfl) (fun q e => by cases e)) fun _ _ hq => ⟨gL [],fun _ _ => hq.1,(hS.below hq.2.below).sel [] rfl⟩
   ·intro o ho a w yg100 M Hb hv hO hS
    obtain rfl:=someE ho
    exact Stp.mono (o_evs [] (vB (cond (y108 == 0) (y112 == 0) false)) none [] ((Hb).add (hv 14 (by decide) (by decide) 103 rfl)) rfl (by kernel_rfl) (fun q e => by cases e)) fun _ _ hq => ⟨gL [],fun _ _ => hq.1,(hS.below hq.2.below).sel [] rfl⟩
  have H115 : Fr 382 (fS [4,2,3] [vB (cond (y108 == 0) (y112 == 0) false),vB z10,vB (cond (cond (cond (cond (cond y69 y71 false) y77 false) y81 false) y87 false) y92 false)]) _:=(FrG.add (FrG.keep (ks:=[2,3]) H114 (by kernel_rfl)) (hv 15 4 rfl))
  replace hS : SH M X w [eO 9 tS q102 (yg100 0 0),eO 3 (tI .i64) q105 (yg100 1 0),eO 9 tS ([sub (toB (List.replicate ((20001 : Int)).toNat (0 : Int))) 0 10000,sub (toB (List.replicate ((20001 : Int)).toNat (0 : Int))) 0 10000] : List Str) (yg100 10 0),Ent.tab 1 (Lib.pow10Tab.map fun z => Value.int .u64 z),Ent.gifc 2,Ent.gifc 3] _:=hS
  clear hv H114
  generalize yg100 0 0 = g116 at H115 hS
  generalize yg100 1 0 = g117 at H115 hS
  generalize yg100 10 0 = g118 at H115 hS
  replace hS : SH M X w [Ent.tab 1 (Lib.pow10Tab.map fun z => Value.int .u64 z),Ent.gifc 2,Ent.gifc 3] _:=hS.sel [3,4,5] rfl
  obtain ⟨y119,hy119,hm⟩:=bindE hm
  obtain ⟨y120,hy120,hm⟩:=bindE hm
  obtain ⟨y121,hy121,hm⟩:=bindE hm
  obtain ⟨y122,hy122,hm⟩:=bindE hm
  obtain ⟨y123,hy123,hm⟩:=bindE hm
  obtain ⟨y124,hy124,hm⟩:=bindE hm
  obtain ⟨y125,hy125,hm⟩:=bindE hm
  obtain ⟨y126,hy126,hm⟩:=bindE hm
  obtain ⟨y127,hy127,hm⟩:=bindE hm
  obtain ⟨y128,hy128,hm⟩:=bindE hm
  obtain ⟨y129,hy129,hm⟩:=bindE hm
  obtain ⟨y130,hy130,hm⟩:=bindE hm
  obtain ⟨y131,hy131,hm⟩:=bindE hm
  obtain ⟨y132,hy132,hm⟩:=bindE hm
  obtain ⟨y133,hy133,hm⟩:=bindE hm
  obtain ⟨y134,hy134,hm⟩:=bindE hm
  obtain ⟨y135,hy135,hm⟩:=bindE hm
  obtain ⟨y136,hy136,hm⟩:=bindE hm
  obtain ⟨x137,hx137,hm⟩:=letE hm
  obtain ⟨y138,hy138,hm⟩:=bindE hm
  obtain ⟨y139,hy139,hm⟩:=bindE hm
  obtain ⟨y140,hy140,hm⟩:=bindE hm
  obtain ⟨y141,hy141,hm⟩:=bindE hm
  obtain ⟨y142,hy142,hm⟩:=bindE hm
  obtain ⟨y143,hy143,hm⟩:=bindE hm
  obtain ⟨y144,hy144,hm⟩:=bindE hm
  obtain ⟨y145,hy145,hm⟩:=bindE hm
  obtain ⟨y146,hy146,hm⟩:=bindE hm
  obtain ⟨y147,hy147,hm⟩:=bindE hm
  refine s_reg [(vB y119),(vB y120),(vB y121),(vB y122),(vB y123),(vB y124),(vB y125),(vB y126),(vB y127),(vB y128),(vB y129),(vB y130),(vB y131),(vB y132),(vB y133),(vB y134),(vB y135),(vB y136),(vB y138),(vB y139),(vB y140),(vB y141),(vB y142),(vB y143),(vB y144),(vB y145),(vB y146),(vB y147)] [2,3,4,5] (fS [2,3,4,5] [vB z10,vB (cond (cond (cond (cond (cond y69 y71 false) y77 false) y81 false) y87 false) y92 false),vB (cond (y108 == 0) (y112 == 0) false),vB (cond (cond (cond (cond (cond (cond (cond (cond (cond (cond x137 y138 false) y139 false) y140 false) y141 false) y142 false) y143 false) y144 false) y145 false) y146 false) y147 false)]) [rB 26 [vN] (vB y119),fun wz => (y119 = true ∧ True → RetB Tryd.prog 26 ⟨[vS [48]]⟩ (vB y120) wz),fun wz => ((cond y119 y120 false) = true ∧ True → RetB Tryd.prog 26 ⟨[vS [48,32,48]]⟩ (vB y121) wz),fun wz => ((cond (cond y119 y120 false) y121 false) = true ∧ True → RetB Tryd.prog 26 ⟨[vS [48,32,48,32,91,93]]⟩ (vB y122) wz),fun wz => ((cond (cond (cond y119 y120 false) y121 false) y122 false) = true ∧ True → RetB Tryd.prog 26 ⟨[vS [48,32,48,32,91,93,32,91,93,32]]⟩ (vB y123) wz),fun wz => ((cond (cond (cond (cond y119 y120 false) y121 false) y122 false) y123 false) = true ∧ True → RetB Tryd.prog 26 ⟨[vS [32,48,32,48,32,91,93,32,91,93]]⟩ (vB y124) wz),fun wz => ((cond (cond (cond (cond (cond y119 y120 false) y121 false) y122 false) y123 false) y124 false) = true ∧ True → RetB Tryd.prog 26 ⟨[vS [49,48,48,32,48,32,91,93,32,91,93]]⟩ (vB y125) wz),fun wz => ((cond (cond (cond (cond (cond (cond y119 y120 false) y121 false) y122 false) y123 false) y124 false) y125 false) = true ∧ True → RetB Tryd.prog 26 ⟨[vS [45,49,32,48,32,91,93,32,91,93]]⟩ (vB y126) wz),fun wz => ((cond (cond (cond (cond (cond (cond (cond y119 y120 false) y121 false) y122 false) y123 false) y124 false) y125 false) y126 false) = true ∧ True → RetB Tryd.prog 26 ⟨[vS [48,54,32,48,32,91,93,32,91,93]]⟩ (vB y127) wz),fun wz => ((cond (cond (cond (cond (cond (cond (cond (cond y119 y120 false) y121 false) y122 false) y123 false) y124 false) y125 false) y126 false) y127 false) = true ∧ True → RetB Tryd.prog 26 ⟨[vS [48,32,45,48,32,91,93,32,91,93]]⟩ (vB y128) wz),fun wz => ((cond (cond (cond (cond (cond (cond (cond (cond (cond y119 y120 false) y121 false) y122 false) y123 false) y124 false) y125 false) y126 false) y127 false) y128 false) = true ∧ True → RetB Tryd.prog 26 ⟨[vS [48,32,57,50,50,51,51,55,50,48,51,54,56,53,52,55,55,53,56,48,56,32,91,93,32,91,93]]⟩ (vB y129) wz),fun wz => ((cond (cond (cond (cond (cond (cond (cond (cond (cond (cond y119 y120 false) y121 false) y122 false) y123 false) y124 false) y125 false) y126 false) y127 false) y128 false) y129 false) = true ∧ True → RetB Tryd.prog 26 ⟨[vS [48,32,43,49,32,91,93,32,91,93]]⟩ (vB y130) wz),fun wz => ((cond (cond (cond (cond (cond (cond (cond (cond (cond (cond (cond y119 y120 false) y121 false) y122 false) y123 false) y124 false) y125 false) y126 false) y127 false) y128 false) y129 false) y130 false) = true ∧ True → RetB Tryd.prog 26 ⟨[vS [48,32,48,32,91,34,97,34,44,34,98,34,93,32,91,93]]⟩ (vB y131) wz),fun wz => ((cond (cond (cond (cond (cond (cond (cond (cond (cond (cond (cond (cond y119 y120 false) y121 false) y122 false) y123 false) y124 false) y125 false) y126 false) y127 false) y128 false) y129 false) y130 false) y131 false) = true ∧ True → RetB Tryd.prog 26 ⟨[vS [48,32,48,32,91,34,97,34,44,32,93,32,91,93]]⟩ (vB y132) wz),fun wz => ((cond (cond (cond (cond (cond (cond (cond (cond (cond (cond (cond (cond (cond y119 y120 false) y121 false) y122 false) y123 false) y124 false) y125 false) y126 false) y127 false) y128 false) y129 false) y130 false) y131 false) y132 false) = true ∧ True → RetB Tryd.prog 26 ⟨[vS [48,32,48,32,91,97,93,32,91,93]]⟩ (vB y133) wz),fun wz => ((cond (cond (cond (cond (cond (cond (cond (cond (cond (cond (cond (cond (cond (cond y119 y120 false) y121 false) y122 false) y123 false) y124 false) y125 false) y126 false) y127 false) y128 false) y129 false) y130 false) y131 false) y132 false) y133 false) = true ∧ True → RetB Tryd.prog 26 ⟨[vS [48,32,48,32,91,34,97,93,32,91,93]]⟩ (vB y134) wz),fun wz => ((cond (cond (cond (cond (cond (cond (cond (cond (cond (cond (cond (cond (cond (cond (cond y119 y120 false) y121 false) y122 false) y123 false) y124 false) y125 false) y126 false) y127 false) y128 false) y129 false) y130 false) y131 false) y132 false) y133 false) y134 false) = true ∧ True → RetB Tryd.prog 26 ⟨[vS [48,32,48,32,91,34,92,97,34,93,32,91,93]]⟩ (vB y135) wz),fun wz => ((cond (cond (cond (cond (cond (cond (cond (cond (cond (cond (cond (cond (cond (cond (cond (cond y119 y120 false) y121 false) y122 false) y123 false) y124 false) y125 false) y126 false) y127 false) y128 false) y129 false) y130 false) y131 false) y132 false) y133 false) y134 false) y135 false) = true ∧ True → RetB Tryd.prog 26 ⟨[vS [48,32,48,32,91,34,92,120,52,49,34,93,32,91,93]]⟩ (vB y136) wz),fun wz => (x137 = true ∧ True → RetB Tryd.prog 26 ⟨[vS [48,32,48,32,91,34,92,120,48,97,34,93,32,91,93]]⟩ (vB y138) wz),fun wz => ((cond x137 y138 false) = true ∧ True → RetB Tryd.prog 26 ⟨[vS [48,32,48,32,91,34,92,120,70,70,34,93,32,91,93]]⟩ (vB y139) wz),fun wz => ((cond (cond x137 y138 false) y139 false) = true ∧ True → RetB Tryd.prog 26 ⟨[vS [48,32,48,32,91,34,128,34,93,32,91,93]]⟩ (vB y140) wz),fun wz => ((cond (cond (cond x137 y138 false) y139 false) y140 false) = true ∧ True → RetB Tryd.prog 26 ⟨[vS [48,32,48,32,91,93,32,91,49,44,50,93]]⟩ (vB y141) wz),fun wz => ((cond (cond (cond (cond x137 y138 false) y139 false) y140 false) y141 false) = true ∧ True → RetB Tryd.prog 26 ⟨[vS [48,32,48,32,91,93,32,91,49,32,50,93]]⟩ (vB y142) wz),fun wz => ((cond (cond (cond (cond (cond x137 y138 false) y139 false) y140 false) y141 false) y142 false) = true ∧ True → RetB Tryd.prog 26 ⟨[vS [48,32,48,32,91,93,32,91,48,49,93]]⟩ (vB y143) wz),fun wz => ((cond (cond (cond (cond (cond (cond x137 y138 false) y139 false) y140 false) y141 false) y142 false) y143 false) = true ∧ True → RetB Tryd.prog 26 ⟨[vS [48,32,48,32,91,93,32,91,49,44,32,93]]⟩ (vB y144) wz),fun wz => ((cond (cond (cond (cond (cond (cond (cond x137 y138 false) y139 false) y140 false) y141 false) y142 false) y143 false) y144 false) = true ∧ True → RetB Tryd.prog 26 ⟨[vS [48,32,48,32,91,93,32,91]]⟩ (vB y145) wz),fun wz => ((cond (cond (cond (cond (cond (cond (cond (cond x137 y138 false) y139 false) y140 false) y141 false) y142 false) y143 false) y144 false) y145 false) = true ∧ True → RetB Tryd.prog 26 ⟨[vS [48,32,32,48,32,91,93,32,91,93]]⟩ (vB y146) wz),fun wz => ((cond (cond (cond (cond (cond (cond (cond (cond (cond x137 y138 false) y139 false) y140 false) y141 false) y142 false) y143 false) y144 false) y145 false) y146 false) = true ∧ True → RetB Tryd.prog 26 ⟨[vS [48,32,48,32,91,93,91,93]]⟩ (vB y147) wz)] H115 (by subst hx137; kernel_rfl) ⟨(law40_none_ok m _ _ hy119 _ (s0gf (s0gf (s0tab s0nil (hS.at 0 rfl)) (hS.at 2 rfl)) (hS.at 1 rfl))),fun hg => law40_none_ok m _ _ (bT (hg.1) hy120) _ (s0gf (s0gf (s0tab s0nil (hS.at 0 rfl)) (hS.at 2 rfl)) (hS.at 1 rfl)),fun hg => law40_none_ok m _ _ (bT (hg.1) hy121) _ (s0gf (s0gf (s0tab s0nil (hS.at 0 rfl)) (hS.at 2 rfl)) (hS.at 1 rfl)),fun hg => law40_none_ok m _ _ (bT (hg.1) hy122) _ (s0gf (s0gf (s0tab s0nil (hS.at 0 rfl)) (hS.at 2 rfl)) (hS.at 1 rfl)),fun hg => law40_none_ok m _ _ (bT (hg.1) hy123) _ (s0gf (s0gf (s0tab s0nil (hS.at 0 rfl)) (hS.at 2 rfl)) (hS.at 1 rfl)),fun hg => law40_none_ok m _ _ (bT (hg.1) hy124) _ (s0gf (s0gf (s0tab s0nil (hS.at 0 rfl)) (hS.at 2 rfl)) (hS.at 1 rfl)),fun hg => law40_none_ok m _ _ (bT (hg.1) hy125) _ (s0gf (s0gf (s0tab s0nil (hS.at 0 rfl)) (hS.at 2 rfl)) (hS.at 1 rfl)),fun hg => law40_none_ok m _ _ (bT (hg.1) hy126) _ (s0gf (s0gf (s0tab s0nil (hS.at 0 rfl)) (hS.at 2 rfl)) (hS.at 1 rfl)),fun hg => law40_none_ok m _ _ (bT (hg.1) hy127) _ (s0gf (s0gf (s0tab s0nil (hS.at 0 rfl)) (hS.at 2 rfl)) (hS.at 1 rfl)),fun hg => law40_none_ok m _ _ (bT (hg.1) hy128) _ (s0gf (s0gf (s0tab s0nil (hS.at 0 rfl)) (hS.at 2 rfl)) (hS.at 1 rfl)),fun hg => law40_none_ok m _ _ (bT (hg.1) hy129) _ (s0gf (s0gf (s0tab s0nil (hS.at 0 rfl)) (hS.at 2 rfl)) (hS.at 1 rfl)),fun hg => law40_none_ok m _ _ (bT (hg.1) hy130) _ (s0gf (s0gf (s0tab s0nil (hS.at 0 rfl)) (hS.at 2 rfl)) (hS.at 1 rfl)),fun hg => law40_none_ok m _ _ (bT (hg.1) hy131) _ (s0gf (s0gf (s0tab s0nil (hS.at 0 rfl)) (hS.at 2 rfl)) (hS.at 1 rfl)),fun hg => law40_none_ok m _ _ (bT (hg.1) hy132) _ (s0gf (s0gf (s0tab s0nil (hS.at 0 rfl)) (hS.at 2 rfl)) (hS.at 1 rfl)),fun hg => law40_none_ok m _ _ (bT (hg.1) hy133) _ (s0gf (s0gf (s0tab s0nil (hS.at 0 rfl)) (hS.at 2 rfl)) (hS.at 1 rfl)),fun hg => law40_none_ok m _ _ (bT (hg.1) hy134) _ (s0gf (s0gf (s0tab s0nil (hS.at 0 rfl)) (hS.at 2 rfl)) (hS.at 1 rfl)),fun hg => law40_none_ok m _ _ (bT (hg.1) hy135) _ (s0gf (s0gf (s0tab s0nil (hS.at 0 rfl)) (hS.at 2 rfl)) (hS.at 1 rfl)),fun hg => law40_none_ok m _ _ (bT (hg.1) hy136) _ (s0gf (s0gf (s0tab s0nil (hS.at 0 rfl)) (hS.at 2 rfl)) (hS.at 1 rfl)),fun hg => law40_none_ok m _ _ (bT (hg.1) hy138) _ (s0gf (s0gf (s0tab s0nil (hS.at 0 rfl)) (hS.at 2 rfl)) (hS.at 1 rfl)),fun hg => law40_none_ok m _ _ (bT (hg.1) hy139) _ (s0gf (s0gf (s0tab s0nil (hS.at 0 rfl)) (hS.at 2 rfl)) (hS.at 1 rfl)),fun hg => law40_none_ok m _ _ (bT (hg.1) hy140) _ (s0gf (s0gf (s0tab s0nil (hS.at 0 rfl)) (hS.at 2 rfl)) (hS.at 1 rfl)),fun hg => law40_none_ok m _ _ (bT (hg.1) hy141) _ (s0gf (s0gf (s0tab s0nil (hS.at 0 rfl)) (hS.at 2 rfl)) (hS.at 1 rfl)),fun hg => law40_none_ok m _ _ (bT (hg.1) hy142) _ (s0gf (s0gf (s0tab s0nil (hS.at 0 rfl)) (hS.at 2 rfl)) (hS.at 1 rfl)),fun hg => law40_none_ok m _ _ (bT (hg.1) hy143) _ (s0gf (s0gf (s0tab s0nil (hS.at 0 rfl)) (hS.at 2 rfl)) (hS.at 1 rfl)),fun hg => law40_none_ok m _ _ (bT (hg.1) hy144) _ (s0gf (s0gf (s0tab s0nil (hS.at 0 rfl)) (hS.at 2 rfl)) (hS.at 1 rfl)),fun hg => law40_none_ok m _ _ (bT (hg.1) hy145) _ (s0gf (s0gf (s0tab s0nil (hS.at 0 rfl)) (hS.at 2 rfl)) (hS.at 1 rfl)),fun hg => law40_none_ok m _ _ (bT (hg.1) hy146) _ (s0gf (s0gf (s0tab s0nil (hS.at 0 rfl)) (hS.at 2 rfl)) (hS.at 1 rfl)),fun hg => law40_none_ok m _ _ (bT (hg.1) hy147) _ (s0gf (s0gf (s0tab s0nil (hS.at 0 rfl)) (hS.at 2 rfl)) (hS.at 1 rfl)),trivial⟩ fun _ _ H149 hb => ?_
  replace hS:=hS.below hb
  clear H115 hb
  apply w_seq
  apply wl_start
  obtain ⟨ho150,hm⟩:=chkE hm
  obtain ⟨q151,hq151,hm⟩:=letE hm
  have hd:=hS.hand [] [0,1,2] rfl rfl
  refine m_stp [186,2,3,4,5] (fS [2,3,4,5] [vB z10,vB (cond (cond (cond (cond (cond y69 y71 false) y77 false) y81 false) y87 false) y92 false),vB (cond (y108 == 0) (y112 == 0) false),vB (cond (cond (cond (cond (cond (cond (cond (cond (cond (cond x137 y138 false) y139 false) y140 false) y141 false) y142 false) y143 false) y144 false) y145 false) y146 false) y147 false)]) H149 rfl rfl rfl rfl (o_make (T:=tyAnswer) (E:=26) (zv:=vG [vI 0,vI 0,vO,vO]) ((TAnswer.mk 0 0 [] []) : TAnswer) H149 hd rfl rfl (by kernel_rfl) (by kernel_rfl) rfl rfl (fun _ _ => tyAnswer_mk SlG.nil SlG.nil) ho150) (fun _ => rfl) fun _ _ v H153 hq => ?_
  clear H149 hd
  obtain ⟨g154,rfl,hq⟩:=hq
  rw [← hq151] at hq
  rw [← hq151] at H153
  replace hS : SH M X w [eO 26 tyAnswer q151 g154,Ent.tab 1 (Lib.pow10Tab.map fun z => Value.int .u64 z),Ent.gifc 2,Ent.gifc 3] _:=hS.join [] [0,1,2] rfl rfl hq
  clear hq
  refine wl_batch 1 2 [] [2,3,4,5,6] (fS [2,3,4,5,6] [vB z10,vB (cond (cond (cond (cond (cond y69 y71 false) y77 false) y81 false) y87 false) y92 false),vB (cond (y108 == 0) (y112 == 0) false),vB (cond (cond (cond (cond (cond (cond (cond (cond (cond (cond x137 y138 false) y139 false) y140 false) y141 false) y142 false) y143 false) y144 false) y145 false) y146 false) y147 false),vL g154 q151]) [] H153 (by decide) (by kernel_rfl) trivial fun _ _ H157 hb => ?_
  replace hS:=hS.below hb
  clear H153 hb
  apply wl_end rfl
  obtain ⟨y158,hy158,hm⟩:=bindE hm
  refine s_reg [(vW [vS y158.1,vI y158.2])] [2,3,4,5,6,8] (fS [2,3,4,5,6,8] [vB z10,vB (cond (cond (cond (cond (cond y69 y71 false) y77 false) y81 false) y87 false) y92 false),vB (cond (y108 == 0) (y112 == 0) false),vB (cond (cond (cond (cond (cond (cond (cond (cond (cond (cond x137 y138 false) y139 false) y140 false) y141 false) y142 false) y143 false) y144 false) y145 false) y146 false) y147 false),vL g154 q151,vI y158.2]) [rB 21 [vL g154 q151] (vW [vS y158.1,vI y158.2])] H157 (by kernel_rfl) ⟨(answer_Text_ok (g_l_:=g154) m _ _ hy158 _ (s0im (s0tab s0nil (hS.at 1 rfl)) (hS.osl 0 rfl))),trivial⟩ fun _ _ H160 hb => ?_
  replace hS:=hS.below hb
  clear H157 hb
  apply w_seq
  apply wl_start
  refine wl_batch 0 1 [] [2,3,4,5,6,8,193] (fS [2,3,4,5,6,8,193] [vB z10,vB (cond (cond (cond (cond (cond y69 y71 false) y77 false) y81 false) y87 false) y92 false),vB (cond (y108 == 0) (y112 == 0) false),vB (cond (cond (cond (cond (cond (cond (cond (cond (cond (cond x137 y138 false) y139 false) y140 false) y141 false) y142 false) y143 false) y144 false) y145 false) y146 false) y147 false),vL g154 q151,vI y158.2,vL g154 q151]) [] H160 (by decide) (by kernel_rfl) trivial fun _ _ H162 hb => ?_
  replace hS:=hS.below hb
  clear H160 hb
  replace hS : SH M X w [eI tyAnswer q151 g154,Ent.tab 1 (Lib.pow10Tab.map fun z => Value.int .u64 z),Ent.gifc 2,Ent.gifc 3] _:=SH.frz1 (hS.sel [0,1,2,3] rfl)
  obtain ⟨ho163,hm⟩:=chkE hm
  obtain ⟨q164,hq164,hm⟩:=letE hm
  have hd:=hS.hand [0] [0,1,2,3] rfl rfl
  refine m_stp [194,2,3,4,5,6,8] (fS [2,3,4,5,6,8] [vB z10,vB (cond (cond (cond (cond (cond y69 y71 false) y77 false) y81 false) y87 false) y92 false),vB (cond (y108 == 0) (y112 == 0) false),vB (cond (cond (cond (cond (cond (cond (cond (cond (cond (cond x137 y138 false) y139 false) y140 false) y141 false) y142 false) y143 false) y144 false) y145 false) y146 false) y147 false),vL g154 q151,vI y158.2]) H162 rfl rfl rfl rfl (o_sub (T:=tyAnswer) (E:=26) (g:=g154) (q:=q151) (0 : Int) (60 : Int) .none (.some (vI 60)) H162 hd (hd.im 0 rfl) rfl rfl rfl rfl rfl rfl (.inl ⟨rfl,rfl⟩) (.inr ⟨_,rfl⟩) (by kernel_rfl) (by kernel_rfl) ho163) (fun _ => rfl) fun _ _ v H166 hq => ?_
  clear H162 hd
  obtain ⟨g167,rfl,hq⟩:=hq
  rw [← hq164] at hq
  rw [← hq164] at H166
  replace hS : SH M X w [eI tyAnswer q164 g167,eI tyAnswer q151 g154,eI tyAnswer q151 g154,Ent.tab 1 (Lib.pow10Tab.map fun z => Value.int .u64 z),Ent.gifc 2,Ent.gifc 3] _:=hS.join [0] [0,1,2,3] rfl rfl hq
  clear hq
  obtain ⟨y169,hy169,hm⟩:=bindE hm
  refine wl_batch 2 8 [(vW [vS y169.1,vI y169.2])] [2,3,4,5,6,8,9,10] (fS [2,3,4,5,6,8,9,10] [vB z10,vB (cond (cond (cond (cond (cond y69 y71 false) y77 false) y81 false) y87 false) y92 false),vB (cond (y108 == 0) (y112 == 0) false),vB (cond (cond (cond (cond (cond (cond (cond (cond (cond (cond x137 y138 false) y139 false) y140 false) y141 false) y142 false) y143 false) y144 false) y145 false) y146 false) y147 false),vL g154 q151,vI y158.2,vS y169.1,vI y169.2]) [rB 21 [vL g167 q164] (vW [vS y169.1,vI y169.2])] H166 (by decide) (by kernel_rfl) ⟨(answer_Text_ok (g_l_:=g167) m _ _ hy169 _ (s0im (s0tab s0nil (hS.at 3 rfl)) (hS.im 0 rfl))),trivial⟩ fun _ _ H171 hb => ?_
  replace hS:=hS.below hb
  clear H166 hb
  apply wl_end rfl
  replace hS : SH M X w [eI tyAnswer q151 g154,Ent.tab 1 (Lib.pow10Tab.map fun z => Value.int .u64 z),Ent.gifc 2,Ent.gifc 3] _:=hS.sel [1,3,4,5] rfl
  apply w_seq
  apply wl_start
  refine wl_batch 0 1 [] [2,3,4,5,6,8,9,10,199] (fS [2,3,4,5,6,8,9,10,199] [vB z10,vB (cond (cond (cond (cond (cond y69 y71 false) y77 false) y81 false) y87 false) y92 false),vB (cond (y108 == 0) (y112 == 0) false),vB (cond (cond (cond (cond (cond (cond (cond (cond (cond (cond x137 y138 false) y139 false) y140 false) y141 false) y142 false) y143 false) y144 false) y145 false) y146 false) y147 false),vL g154 q151,vI y158.2,vS y169.1,vI y169.2,vS y169.1]) [] H171 (by decide) (by kernel_rfl) trivial fun _ _ H173 hb => ?_
  replace hS:=hS.below hb
  clear H171 hb
  obtain ⟨y174,hy174,hm⟩:=bindE hm
  have hd:=hS.hand [2,3,1] [0,1,2,3] rfl rfl
  refine m_stp [200,2,3,4,5,6,8,9,10] (fS [2,3,4,5,6,8,9,10] [vB z10,vB (cond (cond (cond (cond (cond y69 y71 false) y77 false) y81 false) y87 false) y92 false),vB (cond (y108 == 0) (y112 == 0) false),vB (cond (cond (cond (cond (cond (cond (cond (cond (cond (cond x137 y138 false) y139 false) y140 false) y141 false) y142 false) y143 false) y144 false) y145 false) y146 false) y147 false),vL g154 q151,vI y158.2,vS y169.1,vI y169.2]) H173 rfl rfl rfl rfl (o_callx H173 rfl rfl (answer_ReadText_ok m _ _ hy174 _ _ hd)) (fun _ => rfl) fun _ _ v H178 hq => ?_
  clear H173 hd
  obtain ⟨g175,rfl,hq⟩:=hq
  replace hS : SH M X w [eO 26 tyAnswer y174.1 g175,eI tyAnswer q151 g154,Ent.tab 1 (Lib.pow10Tab.map fun z => Value.int .u64 z),Ent.gifc 2,Ent.gifc 3] _:=hS.join [2,3,1] [0,1,2,3] rfl rfl hq
  clear hq
  refine wl_batch 2 7 [] [2,3,4,5,6,8,9,10,11,12] (fS [2,3,4,5,6,8,9,10,11,12] [vB z10,vB (cond (cond (cond (cond (cond y69 y71 false) y77 false) y81 false) y87 false) y92 false),vB (cond (y108 == 0) (y112 == 0) false),vB (cond (cond (cond (cond (cond (cond (cond (cond (cond (cond x137 y138 false) y139 false) y140 false) y141 false) y142 false) y143 false) y144 false) y145 false) y146 false) y147 false),vL g154 q151,vI y158.2,vS y169.1,vI y169.2,vL g175 y174.1,vI y174.2]) [] H178 (by decide) (by kernel_rfl) trivial fun _ _ H180 hb => ?_
  replace hS:=hS.below hb
  clear H178 hb
  apply wl_end rfl
  apply w_seq
  apply wl_start
  obtain ⟨ho181,hm⟩:=chkE hm
  refine wl_batch 0 2 [] [2,3,4,5,6,8,9,10,11,12,205] (fS [2,3,4,5,6,8,9,10,11,12,205] [vB z10,vB (cond (cond (cond (cond (cond y69 y71 false) y77 false) y81 false) y87 false) y92 false),vB (cond (y108 == 0) (y112 == 0) false),vB (cond (cond (cond (cond (cond (cond (cond (cond (cond (cond x137 y138 false) y139 false) y140 false) y141 false) y142 false) y143 false) y144 false) y145 false) y146 false) y147 false),vL g154 q151,vI y158.2,vS y169.1,vI y169.2,vL g175 y174.1,vI y174.2,vS (y169.1 ++ [48,32,48,32,91,93,32,91,93,10])]) [fun _ => ln y169.1 + ln [48,32,48,32,91,93,32,91,93,10] ≤ 9223372036854775807] H180 (by decide) (by kernel_rfl) ⟨ho181,trivial⟩ fun _ _ H183 hb => ?_
  replace hS:=hS.below hb
  clear H180 hb
  obtain ⟨y184,hy184,hm⟩:=bindE hm
  have hd:=hS.hand [3,4,2] [0,1,2,3,4] rfl rfl
  refine m_stp [206,2,3,4,5,6,8,9,10,11,12] (fS [2,3,4,5,6,8,9,10,11,12] [vB z10,vB (cond (cond (cond (cond (cond y69 y71 false) y77 false) y81 false) y87 false) y92 false),vB (cond (y108 == 0) (y112 == 0) false),vB (cond (cond (cond (cond (cond (cond (cond (cond (cond (cond x137 y138 false) y139 false) y140 false) y141 false) y142 false) y143 false) y144 false) y145 false) y146 false) y147 false),vL g154 q151,vI y158.2,vS y169.1,vI y169.2,vL g175 y174.1,vI y174.2]) H183 rfl rfl rfl rfl (o_callx H183 rfl rfl (answer_ReadText_ok m _ _ hy184 _ _ hd)) (fun _ => rfl) fun _ _ v H188 hq => ?_
  clear H183 hd
  obtain ⟨g185,rfl,hq⟩:=hq
  replace hS : SH M X w [eO 26 tyAnswer y184.1 g185,eO 26 tyAnswer y174.1 g175,eI tyAnswer q151 g154,Ent.tab 1 (Lib.pow10Tab.map fun z => Value.int .u64 z),Ent.gifc 2,Ent.gifc 3] _:=hS.join [3,4,2] [0,1,2,3,4] rfl rfl hq
  clear hq
  refine wl_batch 3 8 [] [2,3,4,5,6,8,9,10,11,12,14] (fS [2,3,4,5,6,8,9,10,11,12,14] [vB z10,vB (cond (cond (cond (cond (cond y69 y71 false) y77 false) y81 false) y87 false) y92 false),vB (cond (y108 == 0) (y112 == 0) false),vB (cond (cond (cond (cond (cond (cond (cond (cond (cond (cond x137 y138 false) y139 false) y140 false) y141 false) y142 false) y143 false) y144 false) y145 false) y146 false) y147 false),vL g154 q151,vI y158.2,vS y169.1,vI y169.2,vL g175 y174.1,vI y174.2,vI y184.2]) [] H188 (by decide) (by kernel_rfl) trivial fun _ _ H190 hb => ?_
  replace hS:=hS.below hb
  clear H188 hb
  apply wl_end rfl
  replace hS : SH M X w [eO 26 tyAnswer y174.1 g175,eI tyAnswer q151 g154,Ent.tab 1 (Lib.pow10Tab.map fun z => Value.int .u64 z),Ent.gifc 2,Ent.gifc 3] _:=hS.sel [1,2,3,4,5] rfl
  apply w_seq
  apply wl_start
  obtain ⟨y191,hy191,hm⟩:=bindE hm
  have hd:=hS.hand [3,4,2] [0,1,2,3,4] rfl rfl
  refine m_stp [210,2,3,4,5,6,8,9,10,11,12,14] (fS [2,3,4,5,6,8,9,10,11,12,14] [vB z10,vB (cond (cond (cond (cond (cond y69 y71 false) y77 false) y81 false) y87 false) y92 false),vB (cond (y108 == 0) (y112 == 0) false),vB (cond (cond (cond (cond (cond (cond (cond (cond (cond (cond x137 y138 false) y139 false) y140 false) y141 false) y142 false) y143 false) y144 false) y145 false) y146 false) y147 false),vL g154 q151,vI y158.2,vS y169.1,vI y169.2,vL g175 y174.1,vI y174.2,vI y184.2]) H190 rfl rfl rfl rfl (o_callx H190 rfl rfl (answer_ReadText_ok m _ _ hy191 _ _ hd)) (fun _ => rfl) fun _ _ v H195 hq => ?_
  clear H190 hd
  obtain ⟨g192,rfl,hq⟩:=hq
  replace hS : SH M X w [eO 26 tyAnswer y191.1 g192,eO 26 tyAnswer y174.1 g175,eI tyAnswer q151 g154,Ent.tab 1 (Lib.pow10Tab.map fun z => Value.int .u64 z),Ent.gifc 2,Ent.gifc 3] _:=hS.join [3,4,2] [0,1,2,3,4] rfl rfl hq
  clear hq
  refine wl_batch 1 6 [] [2,3,4,5,6,8,9,10,11,12,14,16] (fS [2,3,4,5,6,8,9,10,11,12,14,16] [vB z10,vB (cond (cond (cond (cond (cond y69 y71 false) y77 false) y81 false) y87 false) y92 false),vB (cond (y108 == 0) (y112 == 0) false),vB (cond (cond (cond (cond (cond (cond (cond (cond (cond (cond x137 y138 false) y139 false) y140 false) y141 false) y142 false) y143 false) y144 false) y145 false) y146 false) y147 false),vL g154 q151,vI y158.2,vS y169.1,vI y169.2,vL g175 y174.1,vI y174.2,vI y184.2,vI y191.2]) [] H195 (by decide) (by kernel_rfl) trivial fun _ _ H197 hb => ?_
  replace hS:=hS.below hb
  clear H195 hb
  apply wl_end rfl
  replace hS : SH M X w [eO 26 tyAnswer y174.1 g175,eI tyAnswer q151 g154,Ent.tab 1 (Lib.pow10Tab.map fun z => Value.int .u64 z),Ent.gifc 2,Ent.gifc 3] _:=hS.sel [1,2,3,4,5] rfl
  apply w_seq
  apply wl_start
  obtain ⟨y198,hy198,hm⟩:=bindE hm
  have hd:=hS.hand [3,4,2] [0,1,2,3,4] rfl rfl
  refine m_stp [214,2,3,4,5,6,8,9,10,11,12,14,16] (fS [2,3,4,5,6,8,9,10,11,12,14,16] [vB z10,vB (cond (cond (cond (cond (cond y69 y71 false) y77 false) y81 false) y87 false) y92 false),vB (cond (y108 == 0) (y112 == 0) false),vB (cond (cond (cond (cond (cond (cond (cond (cond (cond (cond x137 y138 false) y139 false) y140 false) y141 false) y142 false) y143 false) y144 false) y145 false) y146 false) y147 false),vL g154 q151,vI y158.2,vS y169.1,vI y169.2,vL g175 y174.1,vI y174.2,vI y184.2,vI y191.2]) H197 rfl rfl rfl rfl (o_callx H197 rfl rfl (answer_ReadText_ok m _ _ hy198 _ _ hd)) (fun _ => rfl) fun _ _ v H202 hq => ?_
  clear H197 hd
  obtain ⟨g199,rfl,hq⟩:=hq
  replace hS : SH M X w [eO 26 tyAnswer y198.1 g199,eO 26 tyAnswer y174.1 g175,eI tyAnswer q151 g154,Ent.tab 1 (Lib.pow10Tab.map fun z => Value.int .u64 z),Ent.gifc 2,Ent.gifc 3] _:=hS.join [3,4,2] [0,1,2,3,4] rfl rfl hq
  clear hq
  refine wl_batch 1 6 [] [2,3,4,5,6,8,9,10,11,12,14,16,18] (fS [2,3,4,5,6,8,9,10,11,12,14,16,18] [vB z10,vB (cond (cond (cond (cond (cond y69 y71 false) y77 false) y81 false) y87 false) y92 false),vB (cond (y108 == 0) (y112 == 0) false),vB (cond (cond (cond (cond (cond (cond (cond (cond (cond (cond x137 y138 false) y139 false) y140 false) y141 false) y142 false) y143 false) y144 false) y145 false) y146 false) y147 false),vL g154 q151,vI y158.2,vS y169.1,vI y169.2,vL g175 y174.1,vI y174.2,vI y184.2,vI y191.2,vI y198.2]) [] H202 (by decide) (by kernel_rfl) trivial fun _ _ H204 hb => ?_
  replace hS:=hS.below hb
  clear H202 hb
  apply wl_end rfl
  replace hS : SH M X w [eO 26 tyAnswer y174.1 g175,eI tyAnswer q151 g154,Ent.tab 1 (Lib.pow10Tab.map fun z => Value.int .u64 z),Ent.gifc 2,Ent.gifc 3] _:=hS.sel [1,2,3,4,5] rfl
  apply w_seq
  apply wl_start
  obtain ⟨y205,hy205,hm⟩:=bindE hm
  have hd:=hS.hand [3,4,2] [0,1,2,3,4] rfl rfl
  refine m_stp [218,2,3,4,5,6,8,9,10,11,12,14,16,18] (fS [2,3,4,5,6,8,9,10,11,12,14,16,18] [vB z10,vB (cond (cond (cond (cond (cond y69 y71 false) y77 false) y81 false) y87 false) y92 false),vB (cond (y108 == 0) (y112 == 0) false),vB (cond (cond (cond (cond (cond (cond (cond (cond (cond (cond x137 y138 false) y139 false) y140 false) y141 false) y142 false) y143 false) y144 false) y145 false) y146 false) y147 false),vL g154 q151,vI y158.2,vS y169.1,vI y169.2,vL g175 y174.1,vI y174.2,vI y184.2,vI y191.2,vI y198.2]) H204 rfl rfl rfl rfl (o_callx H204 rfl rfl (answer_ReadText_ok m _ _ hy205 _ _ hd)) (fun _ => rfl) fun _ _ v H209 hq => ?_
  clear H204 hd
  obtain ⟨g206,rfl,hq⟩:=hq
  replace hS : SH M X w [eO 26 tyAnswer y205.1 g206,eO 26 tyAnswer y174.1 g175,eI tyAnswer q151 g154,Ent.tab 1 (Lib.pow10Tab.map fun z => Value.int .u64 z),Ent.gifc 2,Ent.gifc 3] _:=hS.join [3,4,2] [0,1,2,3,4] rfl rfl hq
  clear hq
  refine wl_batch 1 6 [] [2,3,4,5,6,8,9,10,11,12,14,16,18,19,20] (fS [2,3,4,5,6,8,9,10,11,12,14,16,18,19,20] [vB z10,vB (cond (cond (cond (cond (cond y69 y71 false) y77 false) y81 false) y87 false) y92 false),vB (cond (y108 == 0) (y112 == 0) false),vB (cond (cond (cond (cond (cond (cond (cond (cond (cond (cond x137 y138 false) y139 false) y140 false) y141 false) y142 false) y143 false) y144 false) y145 false) y146 false) y147 false),vL g154 q151,vI y158.2,vS y169.1,vI y169.2,vL g175 y174.1,vI y174.2,vI y184.2,vI y191.2,vI y198.2,vL g206 y205.1,vI y205.2]) [] H209 (by decide) (by kernel_rfl) trivial fun _ _ H211 hb => ?_
  replace hS:=hS.below hb
  clear H209 hb
  apply wl_end rfl
  obtain ⟨y212,hy212,hm⟩:=bindE hm
  refine s_reg [(vW [vS y212.1,vI y212.2])] [2,3,4,5,6,8,9,10,11,12,14,16,18,19,20,21,22] (fS [2,3,4,5,6,8,9,10,11,12,14,16,18,19,20,21,22] [vB z10,vB (cond (cond (cond (cond (cond y69 y71 false) y77 false) y81 false) y87 false) y92 false),vB (cond (y108 == 0) (y112 == 0) false),vB (cond (cond (cond (cond (cond (cond (cond (cond (cond (cond x137 y138 false) y139 false) y140 false) y141 false) y142 false) y143 false) y144 false) y145 false) y146 false) y147 false),vL g154 q151,vI y158.2,vS y169.1,vI y169.2,vL g175 y174.1,vI y174.2,vI y184.2,vI y191.2,vI y198.2,vL g206 y205.1,vI y205.2,vS y212.1,vI y212.2]) [rB 21 [vO] (vW [vS y212.1,vI y212.2])] H211 (by kernel_rfl) ⟨(answer_Text_ok (g_l_:=Gh.nil) m _ _ hy212 _ (s0im (s0tab s0nil (hS.at 3 rfl)) (SlG.nil (M:=F0) (g:=Gh.nil)))),trivial⟩ fun _ _ H214 hb => ?_
  replace hS:=hS.below hb
  clear H211 hb
  apply w_seq
  apply wl_start
  obtain ⟨ho215,hm⟩:=chkE hm
  have hd:=hS.hand [] [0,1,2,3,4,5] rfl rfl
  refine m_stp [226,2,3,4,5,6,8,9,10,11,12,14,16,18,19,20,21,22] (fS [2,3,4,5,6,8,9,10,11,12,14,16,18,19,20,21,22] [vB z10,vB (cond (cond (cond (cond (cond y69 y71 false) y77 false) y81 false) y87 false) y92 false),vB (cond (y108 == 0) (y112 == 0) false),vB (cond (cond (cond (cond (cond (cond (cond (cond (cond (cond x137 y138 false) y139 false) y140 false) y141 false) y142 false) y143 false) y144 false) y145 false) y146 false) y147 false),vL g154 q151,vI y158.2,vS y169.1,vI y169.2,vL g175 y174.1,vI y174.2,vI y184.2,vI y191.2,vI y198.2,vL g206 y205.1,vI y205.2,vS y212.1,vI y212.2]) H214 rfl rfl rfl rfl (o_make (T:=(tI .u8)) (E:=5) (zv:=vU 0) (0 : Int) H214 hd rfl rfl (by kernel_rfl) (by kernel_rfl) rfl rfl (fun _ _ => trivial) ho215) (fun _ => rfl) fun _ _ v H217 hq => ?_
  clear H214 hd
  obtain ⟨g218,rfl,hq⟩:=hq
  replace hS : SH M X w [eO 5 (tI .u8) (List.replicate ((90001 : Int)).toNat (0 : Int)) g218,eO 26 tyAnswer y205.1 g206,eO 26 tyAnswer y174.1 g175,eI tyAnswer q151 g154,Ent.tab 1 (Lib.pow10Tab.map fun z => Value.int .u64 z),Ent.gifc 2,Ent.gifc 3] _:=hS.join [] [0,1,2,3,4,5] rfl rfl hq
  clear hq
  refine wl_batch 1 2 [(vS (toB (List.replicate ((90001 : Int)).toNat (0 : Int))))] [2,3,4,5,6,8,9,10,11,12,14,16,18,19,20,21,22,227] (fS [2,3,4,5,6,8,9,10,11,12,14,16,18,19,20,21,22,227] [vB z10,vB (cond (cond (cond (cond (cond y69 y71 false) y77 false) y81 false) y87 false) y92 false),vB (cond (y108 == 0) (y112 == 0) false),vB (cond (cond (cond (cond (cond (cond (cond (cond (cond (cond x137 y138 false) y139 false) y140 false) y141 false) y142 false) y143 false) y144 false) y145 false) y146 false) y147 false),vL g154 q151,vI y158.2,vS y169.1,vI y169.2,vL g175 y174.1,vI y174.2,vI y184.2,vI y191.2,vI y198.2,vL g206 y205.1,vI y205.2,vS y212.1,vI y212.2,vS (toB (List.replicate ((90001 : Int)).toNat (0 : Int)))]) [fun wz => ∀ w',Below wz.heap.size wz w' → (convert 53 9 (.slice g218.a ((List.replicate ((90001 : Int)).toNat (0 : Int)).length) g218.c)).run Tryd.prog w' = .ok (vS (toB (List.replicate ((90001 : Int)).toNat (0 : Int)))) w'] H217 (by decide) (by kernel_rfl) ⟨(conv_slG (E:=5) (by kernel_rfl) (by kernel_rfl) (by kernel_rfl) (hS.osl 0 rfl)),trivial⟩ fun _ _ H221 hb => ?_
  replace hS:=hS.below hb
  clear H217 hb
  obtain ⟨y222,hy222,hm⟩:=bindE hm
  have hd:=hS.hand [5,6,4] [0,1,2,3,4,5,6] rfl rfl
  refine m_stp [228,2,3,4,5,6,8,9,10,11,12,14,16,18,19,20,21,22] (fS [2,3,4,5,6,8,9,10,11,12,14,16,18,19,20,21,22] [vB z10,vB (cond (cond (cond (cond (cond y69 y71 false) y77 false) y81 false) y87 false) y92 false),vB (cond (y108 == 0) (y112 == 0) false),vB (cond (cond (cond (cond (cond (cond (cond (cond (cond (cond x137 y138 false) y139 false) y140 false) y141 false) y142 false) y143 false) y144 false) y145 false) y146 false) y147 false),vL g154 q151,vI y158.2,vS y169.1,vI y169.2,vL g175 y174.1,vI y174.2,vI y184.2,vI y191.2,vI y198.2,vL g206 y205.1,vI y205.2,vS y212.1,vI y212.2]) H221 rfl rfl rfl rfl (o_callx H221 rfl rfl (answer_ReadLine_ok m _ _ hy222 _ _ hd)) (fun _ => rfl) fun _ _ v H228 hq => ?_
  clear H221 hd
  obtain ⟨g223,g225,rfl,hq⟩:=hq
  replace hS : SH M X w [eI tS y222.1.Texts g223,eO 3 (tI .i64) y222.1.Numbers g225,eO 5 (tI .u8) (List.replicate ((90001 : Int)).toNat (0 : Int)) g218,eO 26 tyAnswer y205.1 g206,eO 26 tyAnswer y174.1 g175,eI tyAnswer q151 g154,Ent.tab 1 (Lib.pow10Tab.map fun z => Value.int .u64 z),Ent.gifc 2,Ent.gifc 3] _:=hS.join [5,6,4] [0,1,2,3,4,5,6] rfl rfl hq
  clear hq
  refine wl_batch 3 6 [] [2,3,4,5,6,8,9,10,11,12,14,16,18,19,20,21,22,229,230] (fS [2,3,4,5,6,8,9,10,11,12,14,16,18,19,20,21,22,229,230] [vB z10,vB (cond (cond (cond (cond (cond y69 y71 false) y77 false) y81 false) y87 false) y92 false),vB (cond (y108 == 0) (y112 == 0) false),vB (cond (cond (cond (cond (cond (cond (cond (cond (cond (cond x137 y138 false) y139 false) y140 false) y141 false) y142 false) y143 false) y144 false) y145 false) y146 false) y147 false),vL g154 q151,vI y158.2,vS y169.1,vI y169.2,vL g175 y174.1,vI y174.2,vI y184.2,vI y191.2,vI y198.2,vL g206 y205.1,vI y205.2,vS y212.1,vI y212.2,vG [vI y222.1.Err,vI y222.1.Num,vL g223 y222.1.Texts,vL g225 y222.1.Numbers],vI y222.2]) [] H228 (by decide) (by kernel_rfl) trivial fun _ _ H230 hb => ?_
  replace hS:=hS.below hb
  clear H228 hb
  have hd:=hS.hand [] [0,1,2,3,4,5,6,7,8] rfl rfl
  refine m_stp [23,2,3,4,5,6,8,9,10,11,12,14,16,18,19,20,21,22,229,230] (fS [2,3,4,5,6,8,9,10,11,12,14,16,18,19,20,21,22,229,230] [vB z10,vB (cond (cond (cond (cond (cond y69 y71 false) y77 false) y81 false) y87 false) y92 false),vB (cond (y108 == 0) (y112 == 0) false),vB (cond (cond (cond (cond (cond (cond (cond (cond (cond (cond x137 y138 false) y139 false) y140 false) y141 false) y142 false) y143 false) y144 false) y145 false) y146 false) y147 false),vL g154 q151,vI y158.2,vS y169.1,vI y169.2,vL g175 y174.1,vI y174.2,vI y184.2,vI y191.2,vI y198.2,vL g206 y205.1,vI y205.2,vS y212.1,vI y212.2,vG [vI y222.1.Err,vI y222.1.Num,vL g223 y222.1.Texts,vL g225 y222.1.Numbers],vI y222.2]) H230 rfl rfl rfl rfl (o_alloc [vI 0,vI 0,vO,vO] (z:=vG [vI 0,vI 0,vO,vO]) hd (by kernel_rfl) rfl) (fun _ => rfl) fun _ _ v H233 hq => ?_
  clear H230 hd
  obtain ⟨b231,rfl,hq⟩:=hq
  replace hS : SH M X w [eB b231 [vI 0,vI 0,vO,vO],eI tS y222.1.Texts g223,eO 3 (tI .i64) y222.1.Numbers g225,eO 5 (tI .u8) (List.replicate ((90001 : Int)).toNat (0 : Int)) g218,eO 26 tyAnswer y205.1 g206,eO 26 tyAnswer y174.1 g175,eI tyAnswer q151 g154,Ent.tab 1 (Lib.pow10Tab.map fun z => Value.int .u64 z),Ent.gifc 2,Ent.gifc 3] _:=hS.join [] [0,1,2,3,4,5,6,7,8] rfl rfl hq
  clear hq
  have hd:=hS.hand [0] [1,2,3,4,5,6,7,8,9] rfl rfl
  refine m_stp0 [2,3,4,5,6,8,9,10,11,12,14,16,18,19,20,21,22,230] (fS [2,3,4,5,6,8,9,10,11,12,14,16,18,19,20,21,22,230] [vB z10,vB (cond (cond (cond (cond (cond y69 y71 false) y77 false) y81 false) y87 false) y92 false),vB (cond (y108 == 0) (y112 == 0) false),vB (cond (cond (cond (cond (cond (cond (cond (cond (cond (cond x137 y138 false) y139 false) y140 false) y141 false) y142 false) y143 false) y144 false) y145 false) y146 false) y147 false),vL g154 q151,vI y158.2,vS y169.1,vI y169.2,vL g175 y174.1,vI y174.2,vI y184.2,vI y191.2,vI y198.2,vL g206 y205.1,vI y205.2,vS y212.1,vI y212.2,vI y222.2]) H233 rfl rfl rfl (o_store [vI y222.1.Err,vI y222.1.Num,vL g223 y222.1.Texts,vL g225 y222.1.Numbers] H233 hd rfl rfl (by kernel_rfl) rfl rfl rfl) rfl fun _ _ H235 hq => ?_
  clear H233 hd
  obtain ⟨_,hq⟩:=hq
  replace hS : SH M X w [eB b231 [vI y222.1.Err,vI y222.1.Num,vL g223 y222.1.Texts,vL g225 y222.1.Numbers],eI tS y222.1.Texts g223,eO 3 (tI .i64) y222.1.Numbers g225,eO 5 (tI .u8) (List.replicate ((90001 : Int)).toNat (0 : Int)) g218,eO 26 tyAnswer y205.1 g206,eO 26 tyAnswer y174.1 g175,eI tyAnswer q151 g154,Ent.tab 1 (Lib.pow10Tab.map fun z => Value.int .u64 z),Ent.gifc 2,Ent.gifc 3] _:=hS.join [0] [1,2,3,4,5,6,7,8,9] rfl rfl hq
  clear hq
  refine wl_batch 8 9 [] [2,3,4,5,6,8,9,10,11,12,14,16,18,19,20,21,22,24] (fS [2,3,4,5,6,8,9,10,11,12,14,16,18,19,20,21,22,24] [vB z10,vB (cond (cond (cond (cond (cond y69 y71 false) y77 false) y81 false) y87 false) y92 false),vB (cond (y108 == 0) (y112 == 0) false),vB (cond (cond (cond (cond (cond (cond (cond (cond (cond (cond x137 y138 false) y139 false) y140 false) y141 false) y142 false) y143 false) y144 false) y145 false) y146 false) y147 false),vL g154 q151,vI y158.2,vS y169.1,vI y169.2,vL g175 y174.1,vI y174.2,vI y184.2,vI y191.2,vI y198.2,vL g206 y205.1,vI y205.2,vS y212.1,vI y212.2,vI y222.2]) [] H235 (by decide) (by kernel_rfl) trivial fun _ _ H237 hb => ?_
  replace hS:=hS.below hb
  clear H235 hb
  apply wl_end rfl
  replace hS : SH M X w [eO 26 tyAnswer y205.1 g206,eO 26 tyAnswer y174.1 g175,eI tyAnswer q151 g154,Ent.tab 1 (Lib.pow10Tab.map fun z => Value.int .u64 z),Ent.gifc 2,Ent.gifc 3] _:=hS.sel [4,5,6,7,8,9] rfl
  apply w_seq
  apply wl_start
  obtain ⟨ho238,hm⟩:=chkE hm
  have hd:=hS.hand [] [0,1,2,3,4,5] rfl rfl
  refine m_stp [232,2,3,4,5,6,8,9,10,11,12,14,16,18,19,20,21,22,24] (fS [2,3,4,5,6,8,9,10,11,12,14,16,18,19,20,21,22,24] [vB z10,vB (cond (cond (cond (cond (cond y69 y71 false) y77 false) y81 false) y87 false) y92 false),vB (cond (y108 == 0) (y112 == 0) false),vB (cond (cond (cond (cond (cond (cond (cond (cond (cond (cond x137 y138 false) y139 false) y140 false) y141 false) y142 false) y143 false) y144 false) y145 false) y146 false) y147 false),vL g154 q151,vI y158.2,vS y169.1,vI y169.2,vL g175 y174.1,vI y174.2,vI y184.2,vI y191.2,vI y198.2,vL g206 y205.1,vI y205.2,vS y212.1,vI y212.2,vI y222.2]) H237 rfl rfl rfl rfl (o_make (T:=(tI .u8)) (E:=5) (zv:=vU 0) (0 : Int) H237 hd rfl rfl (by kernel_rfl) (by kernel_rfl) rfl rfl (fun _ _ => trivial) ho238) (fun _ => rfl) fun _ _ v H240 hq => ?_
  clear H237 hd
  obtain ⟨g241,rfl,hq⟩:=hq
  replace hS : SH M X w [eO 5 (tI .u8) (List.replicate ((5400001 : Int)).toNat (0 : Int)) g241,eO 26 tyAnswer y205.1 g206,eO 26 tyAnswer y174.1 g175,eI tyAnswer q151 g154,Ent.tab 1 (Lib.pow10Tab.map fun z => Value.int .u64 z),Ent.gifc 2,Ent.gifc 3] _:=hS.join [] [0,1,2,3,4,5] rfl rfl hq
  clear hq
  refine wl_batch 1 2 [(vS (toB (List.replicate ((5400001 : Int)).toNat (0 : Int))))] [2,3,4,5,6,8,9,10,11,12,14,16,18,19,20,21,22,24,233] (fS [2,3,4,5,6,8,9,10,11,12,14,16,18,19,20,21,22,24,233] [vB z10,vB (cond (cond (cond (cond (cond y69 y71 false) y77 false) y81 false) y87 false) y92 false),vB (cond (y108 == 0) (y112 == 0) false),vB (cond (cond (cond (cond (cond (cond (cond (cond (cond (cond x137 y138 false) y139 false) y140 false) y141 false) y142 false) y143 false) y144 false) y145 false) y146 false) y147 false),vL g154 q151,vI y158.2,vS y169.1,vI y169.2,vL g175 y174.1,vI y174.2,vI y184.2,vI y191.2,vI y198.2,vL g206 y205.1,vI y205.2,vS y212.1,vI y212.2,vI y222.2,vS (toB (List.replicate ((5400001 : Int)).toNat (0 : Int)))]) [fun wz => ∀ w',Below wz.heap.size wz w' → (convert 53 9 (.slice g241.a ((List.replicate ((5400001 : Int)).toNat (0 : Int)).length) g241.c)).run Tryd.prog w' = .ok (vS (toB (List.replicate ((5400001 : Int)).toNat (0 : Int)))) w'] H240 (by decide) (by kernel_rfl) ⟨(conv_slG (E:=5) (by kernel_rfl) (by kernel_rfl) (by kernel_rfl) (hS.osl 0 rfl)),trivial⟩ fun _ _ H244 hb => ?_
  replace hS:=hS.below hb
  clear H240 hb
  obtain ⟨y245,hy245,hm⟩:=bindE hm
  have hd:=hS.hand [5,6,4] [0,1,2,3,4,5,6] rfl rfl
  refine m_stp [234,2,3,4,5,6,8,9,10,11,12,14,16,18,19,20,21,22,24] (fS [2,3,4,5,6,8,9,10,11,12,14,16,18,19,20,21,22,24] [vB z10,vB (cond (cond (cond (cond (cond y69 y71 false) y77 false) y81 false) y87 false) y92 false),vB (cond (y108 == 0) (y112 == 0) false),vB (cond (cond (cond (cond (cond (cond (cond (cond (cond (cond x137 y138 false) y139 false) y140 false) y141 false) y142 false) y143 false) y144 false) y145 false) y146 false) y147 false),vL g154 q151,vI y158.2,vS y169.1,vI y169.2,vL g175 y174.1,vI y174.2,vI y184.2,vI y191.2,vI y198.2,vL g206 y205.1,vI y205.2,vS y212.1,vI y212.2,vI y222.2]) H244 rfl rfl rfl rfl (o_callx H244 rfl rfl (answer_ReadText_ok m _ _ hy245 _ _ hd)) (fun _ => rfl) fun _ _ v H249 hq => ?_
  clear H244 hd
  obtain ⟨g246,rfl,hq⟩:=hq
  replace hS : SH M X w [eO 26 tyAnswer y245.1 g246,eO 5 (tI .u8) (List.replicate ((5400001 : Int)).toNat (0 : Int)) g241,eO 26 tyAnswer y205.1 g206,eO 26 tyAnswer y174.1 g175,eI tyAnswer q151 g154,Ent.tab 1 (Lib.pow10Tab.map fun z => Value.int .u64 z),Ent.gifc 2,Ent.gifc 3] _:=hS.join [5,6,4] [0,1,2,3,4,5,6] rfl rfl hq
  clear hq
  refine wl_batch 3 8 [] [2,3,4,5,6,8,9,10,11,12,14,16,18,19,20,21,22,24,26] (fS [2,3,4,5,6,8,9,10,11,12,14,16,18,19,20,21,22,24,26] [vB z10,vB (cond (cond (cond (cond (cond y69 y71 false) y77 false) y81 false) y87 false) y92 false),vB (cond (y108 == 0) (y112 == 0) false),vB (cond (cond (cond (cond (cond (cond (cond (cond (cond (cond x137 y138 false) y139 false) y140 false) y141 false) y142 false) y143 false) y144 false) y145 false) y146 false) y147 false),vL g154 q151,vI y158.2,vS y169.1,vI y169.2,vL g175 y174.1,vI y174.2,vI y184.2,vI y191.2,vI y198.2,vL g206 y205.1,vI y205.2,vS y212.1,vI y212.2,vI y222.2,vI y245.2]) [] H249 (by decide) (by kernel_rfl) trivial fun _ _ H251 hb => ?_
  replace hS:=hS.below hb
  clear H249 hb
  apply wl_end rfl
  replace hS : SH M X w [eO 26 tyAnswer y205.1 g206,eO 26 tyAnswer y174.1 g175,eI tyAnswer q151 g154,Ent.tab 1 (Lib.pow10Tab.map fun z => Value.int .u64 z),Ent.gifc 2,Ent.gifc 3] _:=hS.sel [2,3,4,5,6,7] rfl
  obtain ⟨y252,hy252,hm⟩:=bindE hm
  refine s_reg [(vW [vI y252.1,vI y252.2])] [2,3,4,5,6,8,9,10,11,12,14,16,18,19,20,21,22,24,26,28] (fS [2,3,4,5,6,8,9,10,11,12,14,16,18,19,20,21,22,24,26,28] [vB z10,vB (cond (cond (cond (cond (cond y69 y71 false) y77 false) y81 false) y87 false) y92 false),vB (cond (y108 == 0) (y112 == 0) false),vB (cond (cond (cond (cond (cond (cond (cond (cond (cond (cond x137 y138 false) y139 false) y140 false) y141 false) y142 false) y143 false) y144 false) y145 false) y146 false) y147 false),vL g154 q151,vI y158.2,vS y169.1,vI y169.2,vL g175 y174.1,vI y174.2,vI y184.2,vI y191.2,vI y198.2,vL g206 y205.1,vI y205.2,vS y212.1,vI y212.2,vI y222.2,vI y245.2,vI y252.2]) [rB 19 [vL g154 q151,vO] (vW [vI y252.1,vI y252.2])] H251 (by kernel_rfl) ⟨(answer_First_ok (g_a_:=g154) (g_b_:=Gh.nil) m _ _ _ hy252 _ (s0im (s0im s0nil (SlG.nil (M:=F0) (g:=Gh.nil))) (hS.im 2 rfl))),trivial⟩ fun _ _ H254 hb => ?_
  replace hS:=hS.below hb
  clear H251 hb
  apply w_seq
  apply wl_start
  refine wl_batch 0 1 [] [2,3,4,5,6,8,9,10,11,12,14,16,18,19,20,21,22,24,26,28,243] (fS [2,3,4,5,6,8,9,10,11,12,14,16,18,19,20,21,22,24,26,28,243] [vB z10,vB (cond (cond (cond (cond (cond y69 y71 false) y77 false) y81 false) y87 false) y92 false),vB (cond (y108 == 0) (y112 == 0) false),vB (cond (cond (cond (cond (cond (cond (cond (cond (cond (cond x137 y138 false) y139 false) y140 false) y141 false) y142 false) y143 false) y144 false) y145 false) y146 false) y147 false),vL g154 q151,vI y158.2,vS y169.1,vI y169.2,vL g175 y174.1,vI y174.2,vI y184.2,vI y191.2,vI y198.2,vL g206 y205.1,vI y205.2,vS y212.1,vI y212.2,vI y222.2,vI y245.2,vI y252.2,vG [vI 100,vI 0,vO,vO]]) [] H254 (by decide) (by kernel_rfl) trivial fun _ _ H256 hb => ?_
  replace hS:=hS.below hb
  clear H254 hb
  have hd:=hS.hand [] [0,1,2,3,4,5] rfl rfl
  refine m_stp [244,2,3,4,5,6,8,9,10,11,12,14,16,18,19,20,21,22,24,26,28] (fS [2,3,4,5,6,8,9,10,11,12,14,16,18,19,20,21,22,24,26,28] [vB z10,vB (cond (cond (cond (cond (cond y69 y71 false) y77 false) y81 false) y87 false) y92 false),vB (cond (y108 == 0) (y112 == 0) false),vB (cond (cond (cond (cond (cond (cond (cond (cond (cond (cond x137 y138 false) y139 false) y140 false) y141 false) y142 false) y143 false) y144 false) y145 false) y146 false) y147 false),vL g154 q151,vI y158.2,vS y169.1,vI y169.2,vL g175 y174.1,vI y174.2,vI y184.2,vI y191.2,vI y198.2,vL g206 y205.1,vI y205.2,vS y212.1,vI y212.2,vI y222.2,vI y245.2,vI y252.2]) H256 rfl rfl rfl rfl (o_lit (T:=tyAnswer) (E:=26) (zv:=vG [vI 0,vI 0,vO,vO]) [vI 100,vI 0,vO,vO] ([(TAnswer.mk 100 0 [] [])] : List TAnswer) [gL [Gh.nil,Gh.nil]] _ H256 hd rfl (by kernel_rfl) (by kernel_rfl) (by kernel_rfl) (by kernel_rfl) (by kernel_rfl) (by kernel_rfl) (by kernel_rfl) rfl (InnL.cons (tyAnswer_mk SlG.nil SlG.nil) InnL.nil)) (fun _ => rfl) fun _ _ v H260 hq => ?_
  clear H256 hd
  obtain ⟨g257,rfl,hq⟩:=hq
  replace hS : SH M X w [eO 26 tyAnswer ([(TAnswer.mk 100 0 [] [])] : List TAnswer) g257,eO 26 tyAnswer y205.1 g206,eO 26 tyAnswer y174.1 g175,eI tyAnswer q151 g154,Ent.tab 1 (Lib.pow10Tab.map fun z => Value.int .u64 z),Ent.gifc 2,Ent.gifc 3] _:=hS.join [] [0,1,2,3,4,5] rfl rfl hq
  clear hq
  obtain ⟨y261,hy261,hm⟩:=bindE hm
  refine wl_batch 2 9 [(vW [vI y261.1,vI y261.2])] [2,3,4,5,6,8,9,10,11,12,14,16,18,19,20,21,22,24,26,28,30] (fS [2,3,4,5,6,8,9,10,11,12,14,16,18,19,20,21,22,24,26,28,30] [vB z10,vB (cond (cond (cond (cond (cond y69 y71 false) y77 false) y81 false) y87 false) y92 false),vB (cond (y108 == 0) (y112 == 0) false),vB (cond (cond (cond (cond (cond (cond (cond (cond (cond (cond x137 y138 false) y139 false) y140 false) y141 false) y142 false) y143 false) y144 false) y145 false) y146 false) y147 false),vL g154 q151,vI y158.2,vS y169.1,vI y169.2,vL g175 y174.1,vI y174.2,vI y184.2,vI y191.2,vI y198.2,vL g206 y205.1,vI y205.2,vS y212.1,vI y212.2,vI y222.2,vI y245.2,vI y252.2,vI y261.2]) [rB 19 [vK g257 1,vL g154 q151] (vW [vI y261.1,vI y261.2])] H260 (by decide) (by kernel_rfl) ⟨(answer_First_ok (g_a_:=g257) (g_b_:=g154) m _ _ _ hy261 _ (s0im (s0im s0nil (hS.im 3 rfl)) (hS.osl 0 rfl))),trivial⟩ fun _ _ H263 hb => ?_
  replace hS:=hS.below hb
  clear H260 hb
  apply wl_end rfl
  replace hS : SH M X w [eO 26 tyAnswer y205.1 g206,eO 26 tyAnswer y174.1 g175,eI tyAnswer q151 g154,Ent.tab 1 (Lib.pow10Tab.map fun z => Value.int .u64 z),Ent.gifc 2,Ent.gifc 3] _:=hS.sel [1,2,3,4,5,6] rfl
  obtain ⟨y264,hy264,hm⟩:=bindE hm
  refine s_reg [(vW [vI y264.1,vI y264.2])] [2,3,4,5,6,8,9,10,11,12,14,16,18,19,20,21,22,24,26,28,30,32] (fS [2,3,4,5,6,8,9,10,11,12,14,16,18,19,20,21,22,24,26,28,30,32] [vB z10,vB (cond (cond (cond (cond (cond y69 y71 false) y77 false) y81 false) y87 false) y92 false),vB (cond (y108 == 0) (y112 == 0) false),vB (cond (cond (cond (cond (cond (cond (cond (cond (cond (cond x137 y138 false) y139 false) y140 false) y141 false) y142 false) y143 false) y144 false) y145 false) y146 false) y147 false),vL g154 q151,vI y158.2,vS y169.1,vI y169.2,vL g175 y174.1,vI y174.2,vI y184.2,vI y191.2,vI y198.2,vL g206 y205.1,vI y205.2,vS y212.1,vI y212.2,vI y222.2,vI y245.2,vI y252.2,vI y261.2,vI y264.2]) [rB 19 [vO,vL g154 q151] (vW [vI y264.1,vI y264.2])] H263 (by kernel_rfl) ⟨(answer_First_ok (g_a_:=Gh.nil) (g_b_:=g154) m _ _ _ hy264 _ (s0im (s0im s0nil (hS.im 2 rfl)) (SlG.nil (M:=F0) (g:=Gh.nil)))),trivial⟩ fun _ _ H266 hb => ?_
  replace hS:=hS.below hb
  clear H263 hb
  obtain ⟨q268,hq268,hm⟩:=letE hm
  obtain ⟨ho271,hm⟩:=chkE hm
  obtain ⟨q272,hq272,hm⟩:=letE hm
  obtain ⟨y275,hy275,hm⟩:=bindE hm
  refine s_drawS (base:=(fS [2,3,4,5,6,8,9,10,11,12,14,16,18,19,20,21,22,24,26,28,30,32] [vB z10,vB (cond (cond (cond (cond (cond y69 y71 false) y77 false) y81 false) y87 false) y92 false),vB (cond (y108 == 0) (y112 == 0) false),vB (cond (cond (cond (cond (cond (cond (cond (cond (cond (cond x137 y138 false) y139 false) y140 false) y141 false) y142 false) y143 false) y144 false) y145 false) y146 false) y147 false),vL g154 q151,vI y158.2,vS y169.1,vI y169.2,vL g175 y174.1,vI y174.2,vI y184.2,vI y191.2,vI y198.2,vL g206 y205.1,vI y205.2,vS y212.1,vI y212.2,vI y222.2,vI y245.2,vI y252.2,vI y261.2,vI y264.2])) (L:=[eO 26 tyAnswer y205.1 g206,eO 26 tyAnswer y174.1 g175,eI tyAnswer q151 g154,Ent.tab 1 (Lib.pow10Tab.map fun z => Value.int .u64 z),Ent.gifc 2,Ent.gifc 3]) 10 6 (fun yg267 => [vL g154 q151,.slice (yg267 1 0).a q268.length (yg267 1 0).c,vL g154 q151,.slice (yg267 3 0).a q272.length (yg267 3 0).c,vW [vI y275.1,vI y275.2],vW [vI y275.1,vI y275.2],vI y275.1,vI y275.2,vI y275.1,vI y275.2]) (fun yg267 => [[],[eI tyAnswer q268 (yg267 1 0)],[],[eI tyAnswer q272 (yg267 3 0)],[],[],[],[],[],[]]) [[],[12],[],[12],[1,3],[],[],[],[],[]] [[],[],[],[],[],[],[],[],[],[]] [[0],[0,1],[2],[2,3],[0,1,2,3,4],[0,1,2,3,4,5],[0,1,2,3,4,5,6],[0,1,2,3,4,5,7],[0,1,2,3,4,5,6,8],[0,1,2,3,4,5,7,9]] [] (FrG.keep (ks:=[2,3,4,5,6,8,9,10,11,12,14,16,18,19,20,21,22,24,26,28,30,32]) H266 (by kernel_rfl)) (fun _ _ h => by cases h) (by kernel_rfl) hS (by kernel_rfl) rfl rfl (by kernel_rfl) (by kernel_rfl) (by kernel_rfl) (gd_none (by kernel_rfl) _ _) ?hloc_yg267 ?hstep_yg267 fun _ _ yg267 H277 hv hS => ?hK_yg267
  case hloc_yg267 => exact ⟨(fun _ _ _ _ => ⟨rfl,rfl⟩),(fun _ i g hi => lcG [1] (fun yg267 => (.slice (yg267 1 0).a q268.length (yg267 1 0).c,[eI tyAnswer q268 (yg267 1 0)])) hi rfl),(fun _ _ _ _ => ⟨rfl,rfl⟩),(fun _ i g hi => lcG [3] (fun yg267 => (.slice (yg267 3 0).a q272.length (yg267 3 0).c,[eI tyAnswer q272 (yg267 3 0)])) hi rfl),(fun _ _ _ _ => ⟨rfl,rfl⟩),(fun _ _ _ _ => ⟨rfl,rfl⟩),(fun _ _ _ _ => ⟨rfl,rfl⟩),(fun _ _ _ _ => ⟨rfl,rfl⟩),(fun _ _ _ _ => ⟨rfl,rfl⟩),(fun _ _ _ _ => ⟨rfl,rfl⟩),trivial⟩
  case hstep_yg267 =>
   refine ⟨?_,?_,?_,?_,?_,?_,?_,?_,?_,?_,trivial⟩
   ·intro o ho a w yg267 M Hb hv hO hS
    obtain rfl:=someE ho
    exact Stp.mono (o_evs [] (vL g154 q151) none [] Hb rfl (by kernel_rfl) (fun q e => by cases e)) fun _ _ hq => ⟨gL [],fun _ _ => hq.1,(hS.below hq.2.below).sel [] rfl⟩
   ·intro o ho a w yg267 M Hb hv hO hS0
    obtain rfl:=someE ho
    have H : Fr 382 ([(255,[],vL g154 q151)] ++ (fS [2,3,4,5,6,8,9,10,11,12,14,16,18,19,20,21,22,24,26,28,30,32] [vB z10,vB (cond (cond (cond (cond (cond y69 y71 false) y77 false) y81 false) y87 false) y92 false),vB (cond (y108 == 0) (y112 == 0) false),vB (cond (cond (cond (cond (cond (cond (cond (cond (cond (cond x137 y138 false) y139 false) y140 false) y141 false) y142 false) y143 false) y144 false) y145 false) y146 false) y147 false),vL g154 q151,vI y158.2,vS y169.1,vI y169.2,vL g175 y174.1,vI y174.2,vI y184.2,vI y191.2,vI y198.2,vL g206 y205.1,vI y205.2,vS y212.1,vI y212.2,vI y222.2,vI y245.2,vI y252.2,vI y261.2,vI y264.2])) _:=(Hb).add (hv 0 (by decide) (by decide) 255 rfl)
    obtain ⟨X,hX⟩ : ∃ X,X = fpl [eI tyAnswer q151 g154]:=⟨_,rfl⟩
    have hS : SH M X w [eI tyAnswer q151 g154] w:=by rw [hX]; exact hS0
    have hd:=hS.hand [0] [0] rfl rfl
    refine Stp.mono (o_sub (T:=tyAnswer) (E:=26) (g:=g154) (q:=q151) (0 : Int) (60 : Int) .none (.some (vI 60)) H hd (hd.im 0 rfl) rfl rfl rfl rfl rfl rfl (.inl ⟨rfl,rfl⟩) (.inr ⟨_,rfl⟩) (by kernel_rfl) (by kernel_rfl) ho163) ?_
    rintro v w2 hq
    obtain ⟨g269,hv,hq⟩:=hq
    rw [← hq268] at hv hq
    subst hv
    replace hS : SH M X w [eI tyAnswer q268 g269,eI tyAnswer q151 g154,eI tyAnswer q151 g154] _:=hS.join [0] [0] rfl rfl hq
    clear hq
    rw [hX] at hS
    exact ⟨gL [g269],fun _ _ => rfl,hS.sel [0,1] rfl⟩
   ·intro o ho a w yg267 M Hb hv hO hS
    obtain rfl:=someE ho
    exact Stp.mono (o_evs [] (vL g154 q151) none [] Hb rfl (by kernel_rfl) (fun q e => by cases e)) fun _ _ hq => ⟨gL [],fun _ _ => hq.1,(hS.below hq.2.below).sel [] rfl⟩
   ·intro o ho a w yg267 M Hb hv hO hS0
    obtain rfl:=someE ho
    have H : Fr 382 ([(257,[],vL g154 q151)] ++ (fS [2,3,4,5,6,8,9,10,11,12,14,16,18,19,20,21,22,24,26,28,30,32] [vB z10,vB (cond (cond (cond (cond (cond y69 y71 false) y77 false) y81 false) y87 false) y92 false),vB (cond (y108 == 0) (y112 == 0) false),vB (cond (cond (cond (cond (cond (cond (cond (cond (cond (cond x137 y138 false) y139 false) y140 false) y141 false) y142 false) y143 false) y144 false) y145 false) y146 false) y147 false),vL g154 q151,vI y158.2,vS y169.1,vI y169.2,vL g175 y174.1,vI y174.2,vI y184.2,vI y191.2,vI y198.2,vL g206 y205.1,vI y205.2,vS y212.1,vI y212.2,vI y222.2,vI y245.2,vI y252.2,vI y261.2,vI y264.2])) _:=(Hb).add (hv 2 (by decide) (by decide) 257 rfl)
    obtain ⟨X,hX⟩ : ∃ X,X = fpl [eI tyAnswer q151 g154]:=⟨_,rfl⟩
    have hS : SH M X w [eI tyAnswer q151 g154] w:=by rw [hX]; exact hS0
    have hd:=hS.hand [0] [0] rfl rfl
    refine Stp.mono (o_sub (T:=tyAnswer) (E:=26) (g:=g154) (q:=q151) (1 : Int) (ln q151) (.some (vI 1)) .none H hd (hd.im 0 rfl) rfl rfl rfl rfl rfl rfl (.inr ⟨_,rfl⟩) (.inl ⟨rfl,rfl⟩) (by kernel_rfl) (by kernel_rfl) ho271) ?_
    rintro v w2 hq
    obtain ⟨g273,hv,hq⟩:=hq
    rw [← hq272] at hv hq
    subst hv
    replace hS : SH M X w [eI tyAnswer q272 g273,eI tyAnswer q151 g154,eI tyAnswer q151 g154] _:=hS.join [0] [0] rfl rfl hq
    clear hq
    rw [hX] at hS
    exact ⟨gL [g273],fun _ _ => rfl,hS.sel [0,1] rfl⟩
   ·intro o ho a w yg267 M Hb hv hO hS
    obtain rfl:=someE ho
    exact Stp.mono (o_evs [(vW [vI y275.1,vI y275.2])] (vW [vI y275.1,vI y275.2]) (some (rB 19 [.slice (yg267 1 0).a q268.length (yg267 1 0).c,.slice (yg267 3 0).a q272.length (yg267 3 0).c] (vW [vI y275.1,vI y275.2]))) [] (((Hb).add (hv 1 (by decide) (by decide) 256 rfl)).add (hv 3 (by decide) (by decide) 258 rfl)) rfl (by kernel_rfl) (fun q e => by cases e; exact (answer_First_ok (g_a_:=(yg267 1 0)) (g_b_:=(yg267 3 0)) m _ _ _ hy275 _ (s0im (s0im s0nil (hS.im 1 rfl)) (hS.im 0 rfl))))) fun _ _ hq => ⟨gL [],fun _ _ => hq.1,(hS.below hq.2.below).sel [0,1] rfl⟩
   ·intro o ho a w yg267 M Hb hv hO hS
    obtain rfl:=someE ho
    exact Stp.mono (o_evs [] (vW [vI y275.1,vI y275.2]) none [] ((Hb).add (hv 4 (by decide) (by decide) 259 rfl)) rfl (by kernel_rfl) (fun q e => by cases e)) fun _ _ hq => ⟨gL [],fun _ _ => hq.1,(hS.below hq.2.below).sel [] rfl⟩
   ·intro o ho a w yg267 M Hb hv hO hS
    obtain rfl:=someE ho
    exact Stp.mono (o_evs [] (vI y275.1) none [] ((Hb).add (hv 5 (by decide) (by decide) 254 rfl)) rfl (by kernel_rfl) (fun q e => by cases e)) fun _ _ hq => ⟨gL [],fun _ _ => hq.1,(hS.below hq.2.below).sel [] rfl⟩
   ·intro o ho a w yg267 M Hb hv hO hS
    obtain rfl:=someE ho
    exact Stp.mono (o_evs [] (vI y275.2) none [] ((Hb).add (hv 5 (by decide) (by decide) 254 rfl)) rfl (by kernel_rfl) (fun q e => by cases e)) fun _ _ hq => ⟨gL [],fun _ _ => hq.1,(hS.below hq.2.below).sel [] rfl⟩
   ·intro o ho a w yg267 M Hb hv hO hS
    obtain rfl:=someE ho
    exact Stp.mono (o_evs [] (vI y275.1) none [] ((Hb).add (hv 6 (by decide) (by decide) 260 rfl)) rfl (by kernel_rfl) (fun q e => by cases e)) fun _ _ hq => ⟨gL [],fun _ _ => hq.1,(hS.below hq.2.below).sel [] rfl⟩
   ·intro o ho a w yg267 M Hb hv hO hS
    obtain rfl:=someE ho
    exact Stp.mono (o_evs [] (vI y275.2) none [] ((Hb).add (hv 7 (by decide) (by decide) 261 rfl)) rfl (by kernel_rfl) (fun q e => by cases e)) fun _ _ hq => ⟨gL [],fun _ _ => hq.1,(hS.below hq.2.below).sel [] rfl⟩
  have H278 : Fr 382 (fS [34,2,3,4,5,6,8,9,10,11,12,14,16,18,19,20,21,22,24,26,28,30,32] [vI y275.2,vB z10,vB (cond (cond (cond (cond (cond y69 y71 false) y77 false) y81 false) y87 false) y92 false),vB (cond (y108 == 0) (y112 == 0) false),vB (cond (cond (cond (cond (cond (cond (cond (cond (cond (cond x137 y138 false) y139 false) y140 false) y141 false) y142 false) y143 false) y144 false) y145 false) y146 false) y147 false),vL g154 q151,vI y158.2,vS y169.1,vI y169.2,vL g175 y174.1,vI y174.2,vI y184.2,vI y191.2,vI y198.2,vL g206 y205.1,vI y205.2,vS y212.1,vI y212.2,vI y222.2,vI y245.2,vI y252.2,vI y261.2,vI y264.2]) _:=(FrG.add (FrG.keep (ks:=[2,3,4,5,6,8,9,10,11,12,14,16,18,19,20,21,22,24,26,28,30,32]) H277 (by kernel_rfl)) (hv 9 34 rfl))
  replace hS : SH M X w [eI tyAnswer q268 (yg267 1 0),eI tyAnswer q272 (yg267 3 0),eO 26 tyAnswer y205.1 g206,eO 26 tyAnswer y174.1 g175,eI tyAnswer q151 g154,Ent.tab 1 (Lib.pow10Tab.map fun z => Value.int .u64 z),Ent.gifc 2,Ent.gifc 3] _:=hS
  clear hv H277
  generalize yg267 1 0 = g279 at H278 hS
  generalize yg267 3 0 = g280 at H278 hS
  replace hS : SH M X w [eO 26 tyAnswer y205.1 g206,eO 26 tyAnswer y174.1 g175,eI tyAnswer q151 g154,Ent.tab 1 (Lib.pow10Tab.map fun z => Value.int .u64 z),Ent.gifc 2,Ent.gifc 3] _:=hS.sel [2,3,4,5,6,7] rfl
  obtain ⟨q282,hq282,hm⟩:=letE hm
  obtain ⟨ho285,hm⟩:=chkE hm
  obtain ⟨q286,hq286,hm⟩:=letE hm
  obtain ⟨y289,hy289,hm⟩:=bindE hm
  refine s_drawS (base:=(fS [2,3,4,5,6,8,9,10,11,12,14,16,18,19,20,21,22,24,26,28,30,32,34] [vB z10,vB (cond (cond (cond (cond (cond y69 y71 false) y77 false) y81 false) y87 false) y92 false),vB (cond (y108 == 0) (y112 == 0) false),vB (cond (cond (cond (cond (cond (cond (cond (cond (cond (cond x137 y138 false) y139 false) y140 false) y141 false) y142 false) y143 false) y144 false) y145 false) y146 false) y147 false),vL g154 q151,vI y158.2,vS y169.1,vI y169.2,vL g175 y174.1,vI y174.2,vI y184.2,vI y191.2,vI y198.2,vL g206 y205.1,vI y205.2,vS y212.1,vI y212.2,vI y222.2,vI y245.2,vI y252.2,vI y261.2,vI y264.2,vI y275.2])) (L:=[eO 26 tyAnswer y205.1 g206,eO 26 tyAnswer y174.1 g175,eI tyAnswer q151 g154,Ent.tab 1 (Lib.pow10Tab.map fun z => Value.int .u64 z),Ent.gifc 2,Ent.gifc 3]) 10 6 (fun yg281 => [vL g154 q151,.slice (yg281 1 0).a q282.length (yg281 1 0).c,vL g154 q151,.slice (yg281 3 0).a q286.length (yg281 3 0).c,vW [vI y289.1,vI y289.2],vW [vI y289.1,vI y289.2],vI y289.1,vI y289.2,vI y289.1,vI y289.2]) (fun yg281 => [[],[eI tyAnswer q282 (yg281 1 0)],[],[eI tyAnswer q286 (yg281 3 0)],[],[],[],[],[],[]]) [[],[12],[],[12],[1,3],[],[],[],[],[]] [[],[],[],[],[],[],[],[],[],[]] [[0],[0,1],[2],[2,3],[0,1,2,3,4],[0,1,2,3,4,5],[0,1,2,3,4,5,6],[0,1,2,3,4,5,7],[0,1,2,3,4,5,6,8],[0,1,2,3,4,5,7,9]] [] (FrG.keep (ks:=[2,3,4,5,6,8,9,10,11,12,14,16,18,19,20,21,22,24,26,28,30,32,34]) H278 (by kernel_rfl)) (fun _ _ h => by cases h) (by kernel_rfl) hS (by kernel_rfl) rfl rfl (by kernel_rfl) (by kernel_rfl) (by kernel_rfl) (gd_none (by kernel_rfl) _ _) ?hloc_yg281 ?hstep_yg281 fun _ _ yg281 H291 hv hS => ?hK_yg281
  case hloc_yg281 => exact ⟨(fun _ _ _ _ => ⟨rfl,rfl⟩),(fun _ i g hi => lcG [1] (fun yg281 => (.slice (yg281 1 0).a q282.length (yg281 1 0).c,[eI tyAnswer q282 (yg281 1 0)])) hi rfl),(fun _ _ _ _ => ⟨rfl,rfl⟩),(fun _ i g hi => lcG [3] (fun yg281 => (.slice (yg281 3 0).a q286.length (yg281 3 0).c,[eI tyAnswer q286 (yg281 3 0)])) hi rfl),(fun _ _ _ _ => ⟨rfl,rfl⟩),(fun _ _ _ _ => ⟨rfl,rfl⟩),(fun _ _ _ _ => ⟨rfl,rfl⟩),(fun _ _ _ _ => ⟨rfl,rfl⟩),(fun _ _ _ _ => ⟨rfl,rfl⟩),(fun _ _ _ _ => ⟨rfl,rfl⟩),trivial⟩
  case hstep_yg281 =>
   refine ⟨?_,?_,?_,?_,?_,?_,?_,?_,?_,?_,trivial⟩
   ·intro o ho a w yg281 M Hb hv hO hS
    obtain rfl:=someE ho
    exact Stp.mono (o_evs [] (vL g154 q151) none [] Hb rfl (by kernel_rfl) (fun q e => by cases e)) fun _ _ hq => ⟨gL [],fun _ _ => hq.1,(hS.below hq.2.below).sel [] rfl⟩
   ·intro o ho a w yg281 M Hb hv hO hS0
    obtain rfl:=someE ho
    have H : Fr 382 ([(263,[],vL g154 q151)] ++ (fS [2,3,4,5,6,8,9,10,11,12,14,16,18,19,20,21,22,24,26,28,30,32,34] [vB z10,vB (cond (cond (cond (cond (cond y69 y71 false) y77 false) y81 false) y87 false) y92 false),vB (cond (y108 == 0) (y112 == 0) false),vB (cond (cond (cond (cond (cond (cond (cond (cond (cond (cond x137 y138 false) y139 false) y140 false) y141 false) y142 false) y143 false) y144 false) y145 false) y146 false) y147 false),vL g154 q151,vI y158.2,vS y169.1,vI y169.2,vL g175 y174.1,vI y174.2,vI y184.2,vI y191.2,vI y198.2,vL g206 y205.1,vI y205.2,vS y212.1,vI y212.2,vI y222.2,vI y245.2,vI y252.2,vI y261.2,vI y264.2,vI y275.2])) _:=(Hb).add (hv 0 (by decide) (by decide) 263 rfl)
    obtain ⟨X,hX⟩ : ∃ X,X = fpl [eI tyAnswer q151 g154]:=⟨_,rfl⟩
    have hS : SH M X w [eI tyAnswer q151 g154] w:=by rw [hX]; exact hS0
    have hd:=hS.hand [0] [0] rfl rfl
    refine Stp.mono (o_sub (T:=tyAnswer) (E:=26) (g:=g154) (q:=q151) (0 : Int) (60 : Int) .none (.some (vI 60)) H hd (hd.im 0 rfl) rfl rfl rfl rfl rfl rfl (.inl ⟨rfl,rfl⟩) (.inr ⟨_,rfl⟩) (by kernel_rfl) (by kernel_rfl) ho163) ?_
    rintro v w2 hq
    obtain ⟨g283,hv,hq⟩:=hq
    rw [← hq282] at hv hq
    subst hv
    replace hS : SH M X w [eI tyAnswer q282 g283,eI tyAnswer q151 g154,eI tyAnswer q151 g154] _:=hS.join [0] [0] rfl rfl hq
    clear hq
    rw [hX] at hS
    exact ⟨gL [g283],fun _ _ => rfl,hS.sel [0,1] rfl⟩
   ·intro o ho a w yg281 M Hb hv hO hS
    obtain rfl:=someE ho
    exact Stp.mono (o_evs [] (vL g154 q151) none [] Hb rfl (by kernel_rfl) (fun q e => by cases e)) fun _ _ hq => ⟨gL [],fun _ _ => hq.1,(hS.below hq.2.below).sel [] rfl⟩
   ·intro o ho a w yg281 M Hb hv hO hS0
    obtain rfl:=someE ho
    have H : Fr 382 ([(265,[],vL g154 q151)] ++ (fS [2,3,4,5,6,8,9,10,11,12,14,16,18,19,20,21,22,24,26,28,30,32,34] [vB z10,vB (cond (cond (cond (cond (cond y69 y71 false) y77 false) y81 false) y87 false) y92 false),vB (cond (y108 == 0) (y112 == 0) false),vB (cond (cond (cond (cond (cond (cond (cond (cond (cond (cond x137 y138 false) y139 false) y140 false) y141 false) y142 false) y143 false) y144 false) y145 false) y146 false) y147 false),vL g154 q151,vI y158.2,vS y169.1,vI y169.2,vL g175 y174.1,vI y174.2,vI y184.2,vI y191.2,vI y198.2,vL g206 y205.1,vI y205.2,vS y212.1,vI y212.2,vI y222.2,vI y245.2,vI y252.2,vI y261.2,vI y264.2,vI y275.2])) _:=(Hb).add (hv 2 (by decide) (by decide) 265 rfl)
    obtain ⟨X,hX⟩ : ∃ X,X = fpl [eI tyAnswer q151 g154]:=⟨_,rfl⟩
    have hS : SH M X w [eI tyAnswer q151 g154] w:=by rw [hX]; exact hS0
    have hd:=hS.hand [0] [0] rfl rfl
    refine Stp.mono (o_sub (T:=tyAnswer) (E:=26) (g:=g154) (q:=q151) (0 : Int) (59 : Int) .none (.some (vI 59)) H hd (hd.im 0 rfl) rfl rfl rfl rfl rfl rfl (.inl ⟨rfl,rfl⟩) (.inr ⟨_,rfl⟩) (by kernel_rfl) (by kernel_rfl) ho285) ?_
    rintro v w2 hq
    obtain ⟨g287,hv,hq⟩:=hq
    rw [← hq286] at hv hq
    subst hv
    replace hS : SH M X w [eI tyAnswer q286 g287,eI tyAnswer q151 g154,eI tyAnswer q151 g154] _:=hS.join [0] [0] rfl rfl hq
    clear hq
    rw [hX] at hS
    exact ⟨gL [g287],fun _ _ => rfl,hS.sel [0,1] rfl⟩
   ·intro o ho a w yg281 M Hb hv hO hS
    obtain rfl:=someE ho
    exact Stp.mono (o_evs [(vW [vI y289.1,vI y289.2])] (vW [vI y289.1,vI y289.2]) (some (rB 19 [.slice (yg281 1 0).a q282.length (yg281 1 0).c,.slice (yg281 3 0).a q286.length (yg281 3 0).c] (vW [vI y289.1,vI y289.2]))) [] (((Hb).add (hv 1 (by decide) (by decide) 264 rfl)).add (hv 3 (by decide) (by decide) 266 rfl)) rfl (by kernel_rfl) (fun q e => by cases e; exact (answer_First_ok (g_a_:=(yg281 1 0)) (g_b_:=(yg281 3 0)) m _ _ _ hy289 _ (s0im (s0im s0nil (hS.im 1 rfl)) (hS.im 0 rfl))))) fun _ _ hq => ⟨gL [],fun _ _ => hq.1,(hS.below hq.2.below).sel [0,1] rfl⟩
   ·intro o ho a w yg281 M Hb hv hO hS
    obtain rfl:=someE ho
    exact Stp.mono (o_evs [] (vW [vI y289.1,vI y289.2]) none [] ((Hb).add (hv 4 (by decide) (by decide) 267 rfl)) rfl (by kernel_rfl) (fun q e => by cases e)) fun _ _ hq => ⟨gL [],fun _ _ => hq.1,(hS.below hq.2.below).sel [] rfl⟩
   ·intro o ho a w yg281 M Hb hv hO hS
    obtain rfl:=someE ho
    exact Stp.mono (o_evs [] (vI y289.1) none [] ((Hb).add (hv 5 (by decide) (by decide) 262 rfl)) rfl (by kernel_rfl) (fun q e => by cases e)) fun _ _ hq => ⟨gL [],fun _ _ => hq.1,(hS.below hq.2.below).sel [] rfl⟩
   ·intro o ho a w yg281 M Hb hv hO hS
    obtain rfl:=someE ho
    exact Stp.mono (o_evs [] (vI y289.2) none [] ((Hb).add (hv 5 (by decide) (by decide) 262 rfl)) rfl (by kernel_rfl) (fun q e => by cases e)) fun _ _ hq => ⟨gL [],fun _ _ => hq.1,(hS.below hq.2.below).sel [] rfl⟩
   ·intro o ho a w yg281 M Hb hv hO hS
    obtain rfl:=someE ho
    exact Stp.mono (o_evs [] (vI y289.1) none [] ((Hb).add (hv 6 (by decide) (by decide) 268 rfl)) rfl (by kernel_rfl) (fun q e => by cases e)) fun _ _ hq => ⟨gL [],fun _ _ => hq.1,(hS.below hq.2.below).sel [] rfl⟩
   ·intro o ho a w yg281 M Hb hv hO hS
    obtain rfl:=someE ho
    exact Stp.mono (o_evs [] (vI y289.2) none [] ((Hb).add (hv 7 (by decide) (by decide) 269 rfl)) rfl (by kernel_rfl) (fun q e => by cases e)) fun _ _ hq => ⟨gL [],fun _ _ => hq.1,(hS.below hq.2.below).sel [] rfl⟩
  have H292 : Fr 382 (fS [36,35,2,3,4,5,8,9,10,11,12,14,16,18,19,20,21,22,24,26,28,30,32,34] [vI y289.2,vI y289.1,vB z10,vB (cond (cond (cond (cond (cond y69 y71 false) y77 false) y81 false) y87 false) y92 false),vB (cond (y108 == 0) (y112 == 0) false),vB (cond (cond (cond (cond (cond (cond (cond (cond (cond (cond x137 y138 false) y139 false) y140 false) y141 false) y142 false) y143 false) y144 false) y145 false) y146 false) y147 false),vI y158.2,vS y169.1,vI y169.2,vL g175 y174.1,vI y174.2,vI y184.2,vI y191.2,vI y198.2,vL g206 y205.1,vI y205.2,vS y212.1,vI y212.2,vI y222.2,vI y245.2,vI y252.2,vI y261.2,vI y264.2,vI y275.2]) _:=(FrG.add (FrG.add (FrG.keep (ks:=[2,3,4,5,8,9,10,11,12,14,16,18,19,20,21,22,24,26,28,30,32,34]) H291 (by kernel_rfl)) (hv 8 35 rfl)) (hv 9 36 rfl))
  replace hS : SH M X w [eI tyAnswer q282 (yg281 1 0),eI tyAnswer q286 (yg281 3 0),eO 26 tyAnswer y205.1 g206,eO 26 tyAnswer y174.1 g175,eI tyAnswer q151 g154,Ent.tab 1 (Lib.pow10Tab.map fun z => Value.int .u64 z),Ent.gifc 2,Ent.gifc 3] _:=hS
  clear hv H291
  generalize yg281 1 0 = g293 at H292 hS
  generalize yg281 3 0 = g294 at H292 hS
  replace hS : SH M X w [eO 26 tyAnswer y205.1 g206,eO 26 tyAnswer y174.1 g175,Ent.tab 1 (Lib.pow10Tab.map fun z => Value.int .u64 z),Ent.gifc 2,Ent.gifc 3] _:=hS.sel [2,3,5,6,7] rfl
  apply w_seq
  apply wl_start
  refine wl_batch 0 1 [] [2,3,4,5,8,9,10,11,12,14,16,18,19,20,21,22,24,26,28,30,32,34,35,36,271] (fS [2,3,4,5,8,9,10,11,12,14,16,18,19,20,21,22,24,26,28,30,32,34,35,36,271] [vB z10,vB (cond (cond (cond (cond (cond y69 y71 false) y77 false) y81 false) y87 false) y92 false),vB (cond (y108 == 0) (y112 == 0) false),vB (cond (cond (cond (cond (cond (cond (cond (cond (cond (cond x137 y138 false) y139 false) y140 false) y141 false) y142 false) y143 false) y144 false) y145 false) y146 false) y147 false),vI y158.2,vS y169.1,vI y169.2,vL g175 y174.1,vI y174.2,vI y184.2,vI y191.2,vI y198.2,vL g206 y205.1,vI y205.2,vS y212.1,vI y212.2,vI y222.2,vI y245.2,vI y252.2,vI y261.2,vI y264.2,vI y275.2,vI y289.1,vI y289.2,vG [vI 0,vI 1,vO,vO]]) [] H292 (by decide) (by kernel_rfl) trivial fun _ _ H296 hb => ?_
  replace hS:=hS.below hb
  clear H292 hb
  have hd:=hS.hand [] [0,1,2,3,4] rfl rfl
  refine m_stp [272,2,3,4,5,8,9,10,11,12,14,16,18,19,20,21,22,24,26,28,30,32,34,35,36] (fS [2,3,4,5,8,9,10,11,12,14,16,18,19,20,21,22,24,26,28,30,32,34,35,36] [vB z10,vB (cond (cond (cond (cond (cond y69 y71 false) y77 false) y81 false) y87 false) y92 false),vB (cond (y108 == 0) (y112 == 0) false),vB (cond (cond (cond (cond (cond (cond (cond (cond (cond (cond x137 y138 false) y139 false) y140 false) y141 false) y142 false) y143 false) y144 false) y145 false) y146 false) y147 false),vI y158.2,vS y169.1,vI y169.2,vL g175 y174.1,vI y174.2,vI y184.2,vI y191.2,vI y198.2,vL g206 y205.1,vI y205.2,vS y212.1,vI y212.2,vI y222.2,vI y245.2,vI y252.2,vI y261.2,vI y264.2,vI y275.2,vI y289.1,vI y289.2]) H296 rfl rfl rfl rfl (o_lit (T:=tyAnswer) (E:=26) (zv:=vG [vI 0,vI 0,vO,vO]) [vI 0,vI 1,vO,vO] ([(TAnswer.mk 0 1 [] [])] : List TAnswer) [gL [Gh.nil,Gh.nil]] _ H296 hd rfl (by kernel_rfl) (by kernel_rfl) (by kernel_rfl) (by kernel_rfl) (by kernel_rfl) (by kernel_rfl) (by kernel_rfl) rfl (InnL.cons (tyAnswer_mk SlG.nil SlG.nil) InnL.nil)) (fun _ => rfl) fun _ _ v H300 hq => ?_
  clear H296 hd
  obtain ⟨g297,rfl,hq⟩:=hq
  replace hS : SH M X w [eO 26 tyAnswer ([(TAnswer.mk 0 1 [] [])] : List TAnswer) g297,eO 26 tyAnswer y205.1 g206,eO 26 tyAnswer y174.1 g175,Ent.tab 1 (Lib.pow10Tab.map fun z => Value.int .u64 z),Ent.gifc 2,Ent.gifc 3] _:=hS.join [] [0,1,2,3,4] rfl rfl hq
  clear hq
  obtain ⟨y301,hy301,hm⟩:=bindE hm
  refine wl_batch 2 8 [(vW [vI y301.1,vI y301.2])] [2,3,4,5,8,9,10,11,12,14,16,18,19,20,21,22,24,26,28,30,32,34,35,36,37,38] (fS [2,3,4,5,8,9,10,11,12,14,16,18,19,20,21,22,24,26,28,30,32,34,35,36,37,38] [vB z10,vB (cond (cond (cond (cond (cond y69 y71 false) y77 false) y81 false) y87 false) y92 false),vB (cond (y108 == 0) (y112 == 0) false),vB (cond (cond (cond (cond (cond (cond (cond (cond (cond (cond x137 y138 false) y139 false) y140 false) y141 false) y142 false) y143 false) y144 false) y145 false) y146 false) y147 false),vI y158.2,vS y169.1,vI y169.2,vL g175 y174.1,vI y174.2,vI y184.2,vI y191.2,vI y198.2,vL g206 y205.1,vI y205.2,vS y212.1,vI y212.2,vI y222.2,vI y245.2,vI y252.2,vI y261.2,vI y264.2,vI y275.2,vI y289.1,vI y289.2,vI y301.1,vI y301.2]) [rB 19 [vK g297 1,vO] (vW [vI y301.1,vI y301.2])] H300 (by decide) (by kernel_rfl) ⟨(answer_First_ok (g_a_:=g297) (g_b_:=Gh.nil) m _ _ _ hy301 _ (s0im (s0im s0nil (SlG.nil (M:=F0) (g:=Gh.nil))) (hS.osl 0 rfl))),trivial⟩ fun _ _ H303 hb => ?_
  replace hS:=hS.below hb
  clear H300 hb
  apply wl_end rfl
  replace hS : SH M X w [eO 26 tyAnswer y205.1 g206,eO 26 tyAnswer y174.1 g175,Ent.tab 1 (Lib.pow10Tab.map fun z => Value.int .u64 z),Ent.gifc 2,Ent.gifc 3] _:=hS.sel [1,2,3,4,5] rfl
  obtain ⟨x304,hx304,hm⟩:=letE hm
  obtain ⟨x305,hx305,hm⟩:=letE hm
  obtain ⟨x306,hx306,hm⟩:=letE hm
  obtain ⟨y307,hy307,hm⟩:=bindE hm
  refine s_reg [(vB y307)] [0] [(0,[],vB (cond x306 y307 false))] [fun wz => (x306 = true ∧ True → RetB Tryd.prog 16 ⟨[]⟩ (vB y307) wz)] H303 (by subst hx304 hx305 hx306; kernel_rfl) ⟨fun hg => law40_alive_ok m _ (bT (hg.1) hy307) _ (s0tab (s0gf (s0gf s0nil (hS.at 4 rfl)) (hS.at 3 rfl)) (hS.at 2 rfl)),trivial⟩ fun _ _ H309 hb => ?_
  replace hS:=hS.below hb
  clear H303 hb
  replace hS : SH M X w [Ent.tab 1 (Lib.pow10Tab.map fun z => Value.int .u64 z),Ent.gifc 2,Ent.gifc 3] _:=hS.sel [2,3,4] rfl
  apply w_ret
  obtain rfl:=someE hm
  exact retR1 H309 rfl rfl ⟨_,rfl,rfl,(hS.sel [] rfl)⟩
theorem law40_AnswerNames_ok  (m : Nat)  (r : Bool) (hm : law40_AnswerNames m = some r) (w : World) (hL : S0 F0 [Ent.tab 1 (Lib.pow10Tab.map fun z => Value.int .u64 z),Ent.gifc 2,Ent.gifc 3] w ∧ fpl [Ent.tab 1 (Lib.pow10Tab.map fun z => Value.int .u64 z),Ent.gifc 2,Ent.gifc 3] = []) : RetB Tryd.prog 7 ⟨[]⟩ (vB r) w:=retB_of hL (Tryd.call7 _) (fun w' h => law40_AnswerNames_w F0 m    r hm w' h)

end Go.Proofs.YtipafpkdkhnjmaaDoor
