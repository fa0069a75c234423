/-
  What the Go functions compute, as Lean functions, and that a call returns just that. Printed by a program.
-/
import Derived.Test.YtipafpkdkhnjmaaDoorRows
import Derived.Test.YtipafpkdkhnjmaaDoorA
import Derived.Test.YtipafpkdkhnjmaaDoorIA
import Derived.Test.YtipafpkdkhnjmaaDoorRN
import Derived.Test.YtipafpkdkhnjmaaDoorM
import Derived.Test.YtipafpkdkhnjmaaDoorW40Ba
set_option linter.unusedVariables false
set_option maxRecDepth 20000
set_option maxHeartbeats 4000000
namespace Go.Proofs.YtipafpkdkhnjmaaDoor
open Go.V Go.RowKit

theorem strings_Count_ok  (m : Nat) (s : Str) (substr : Str) (r : Int) (hm : strings_Count m s substr = some r) : Ret Tryd.prog 41 ⟨[vS s,vS substr]⟩ (vI r):=retP_of (Tryd.call41 _) (fun w h => strings_Count_w F0 m   s substr r hm w h)

theorem strings_Lines_w  (M : Av) (s : Str) (r : Str) (hm : strings_Lines s = r) (w : World) (hS : S0 M [] w) : Calls Tryd.prog 42 ⟨[vS s]⟩ w (fun e w' => ∃ v,e = .returned v ∧ ∃ (b901 : Nat),v = .func (.func 67) ⟨[]⟩ ⟨[vP b901]⟩ ∧ SH M (fpl []) w [eB b901 [vS r]] w'):=by
 rw [strings_Lines] at hm
 have hS0 : SH M (fpl []) w [] w:=hS
 generalize hX : fpl [] = X at hS0 ⊢
 clear hS hX
 have hS:=hS0
 clear hS0
 refine calls_entryP Tryd.func42 rfl Tryd.ntmps42 rfl fun _ H => ?_
 apply w_seq
 apply wl_start
 have hd:=hS.hand [] [] rfl rfl
 refine m_stp [1] [] H rfl rfl rfl rfl (o_box [vS s] H hd rfl rfl) (fun _ => rfl) fun _ _ v H3 hq => ?_
 clear H hd
 obtain ⟨b1,rfl,hq⟩:=hq
 replace hS : SH M X w [eB b1 [vS s]] _:=hS.join [] [] rfl rfl hq
 clear hq
 refine wl_batch 1 2 [] [1] [(1,[],vP b1)] [] H3 (by decide) (by kernel_rfl) trivial fun _ _ H5 hb => ?_
 replace hS:=hS.below hb
 clear H3 hb
 apply wl_end rfl
 refine s_reg [] [2] [(2,[],.func (.func 67) ⟨[]⟩ ⟨[vP b1]⟩)] [] H5 (by kernel_rfl) trivial fun _ _ H7 hb => ?_
 replace hS:=hS.below hb
 clear H5 hb
 apply w_ret
 subst hm
 exact retR1 H7 rfl rfl ⟨_,rfl,b1,rfl,(hS.sel [0] rfl)⟩
theorem strings_Lines_ok  (s : Str) (r : Str) (hm : strings_Lines s = r) (M : Av) (w : World) (hS : S0 M [] w) : DoesX Tryd.prog 42 ⟨[vS s]⟩ w (fun v w' => ∃ (b901 : Nat),v = .func (.func 67) ⟨[]⟩ ⟨[vP b901]⟩ ∧ SH M (fpl []) w [eB b901 [vS r]] w'):=⟨Tryd.call42 _,strings_Lines_w M   s r hm w hS⟩

theorem lines67_v (v : Str) (hlv : v.length ≤ 1099511627776) : lines67_m v = some (lnT v,lnR v):=by
  have e : strings_IndexByte v 10 = nIndexByte v 10:=rfl
  unfold lines67_m
  show cond (decide (0 ≤ strings_IndexByte v 10)) _ _ = _
  rw [e]
  by_cases h : 0 ≤ nIndexByte v 10
  · rw [decide_eq_true h,cond_true]
    obtain ⟨a1,a2,a3,a4⟩:=ln_ix1 v hlv h
    rw [a3,a4]
    simp only [chk,lt,if_pos,a1,a2,and_self]
  · rw [decide_eq_false h,cond_false]
    obtain ⟨a1,a2⟩:=ln_ix0 v (by omega)
    rw [a1,a2]
theorem lines67 (s : Str) (bs : Nat) (w : World) (hlen : ln s ≤ 1099511627776) : SeqJ Tryd.prog 67 [vP bs] (fun kR => [vS (lnT (lnK s kR))]) (lnN s) bs (fun p => [vS (lnK s p)]) w:=by
  intro lr J Jx W hJB hJb hJx hmv hY h0
  refine calls_entryW Tryd.func67 rfl Tryd.ntmps67 rfl fun _ H => ?_
  refine r_block ?_
  refine r_loop (fun q a W => ∃ k : Nat,k + q = lnN s ∧ J k k W ∧ Fr 25 (fS [0,1] [.func (.yield lr) ⟨[]⟩ ⟨[]⟩,vP bs]) a) ⟨lnN s,0,Nat.zero_add _,h0,H⟩ ?_
  clear H h0
  rintro q _ W2 ⟨kR,hq,hJ,H⟩
  have hr:=hJB _ _ _ hJ
  refine r_seq ?_
  refine sr_reg [vS (lnK s kR)] [0,1,7] (fS [0,1,7] [.func (.yield lr) ⟨[]⟩ ⟨[]⟩,vP bs,vB (decide (0 < ln (lnK s kR)))]) [rA bs 0 (vS (lnK s kR))] H (by kernel_rfl) (by kernel_rfl) ⟨hr.at1 rfl,trivial⟩ fun _ W3 H hb => ?_
  replace hJ:=hJb _ _ _ _ hJ hb
  clear hb hr
  refine r_if H rfl (fun hc => ?_) (fun hc => ?_)
  · refine r_skip ?_
    have hk : kR < lnN s:=lnK_nz s kR (by intro e; rw [e] at hc; cases hc)
    obtain ⟨v,hv⟩ : ∃ v,v = lnK s kR:=⟨_,rfl⟩
    have hlv : v.length ≤ 1099511627776:=by
      have:=lnK_len s kR
      subst hv
      unfold ln at hlen
      omega
    refine r_block ?_
    refine sr_reg [] [0,1] (fS [0,1] [.func (.yield lr) ⟨[]⟩ ⟨[]⟩,vP bs]) [] H (by kernel_rfl) (by kernel_rfl) trivial fun _ W4 H hb => ?_
    replace hJ:=hJb _ _ _ _ hJ hb
    clear hb
    have hr : Blk W4 bs [vS v]:=by rw [hv]; exact hJB _ _ _ hJ
    refine r_cut (fun a' w' => Fr 25 (fS [0,1,3] [.func (.yield lr) ⟨[]⟩ ⟨[]⟩,vP bs,vS (lnT v)]) a' ∧ Kp [bs] W4 w' ∧ Blk w' bs [vS (lnR v)]) ?_ ?_
    · refine (wpIn_wide (n:=0)).2 ?_
      have hm:=lines67_v v hlv
      unfold lines67_m at hm
      have hS : SH F0 [bs] W4 [eB bs [vS v]] W4:=blk_sh hr
      refine s_reg [(vS v),(vI (strings_IndexByte v 10))] [0,1,4] (fS [0,1,4] [.func (.yield lr) ⟨[]⟩ ⟨[]⟩,vP bs,vI (strings_IndexByte v 10)]) [rA bs 0 (vS v),rB 68 [vS v,vU 10] (vI (strings_IndexByte v 10))] H (by kernel_rfl) ⟨((hS.bk 0 rfl).at1 rfl),((strings_IndexByte_ok _ _).b),trivial⟩ fun _ _ H2 hb => ?_
      replace hS:=hS.below hb
      clear H hb
      refine s_reg [] [0,1,4,11] (fS [0,1,4,11] [.func (.yield lr) ⟨[]⟩ ⟨[]⟩,vP bs,vI (strings_IndexByte v 10),vB (decide (0 ≤ (strings_IndexByte v 10)))]) [] H2 (by kernel_rfl) trivial fun _ _ H4 hb => ?_
      replace hS:=hS.below hb
      clear H2 hb
      refine w_if H4 rfl (fun hc => ?_) (fun hc => ?c16)
      case c16 =>
       replace hm:=bF hc hm
       apply wl_start
       refine wl_batch 0 2 [(vS v)] [0,1,3] (fS [0,1,3] [.func (.yield lr) ⟨[]⟩ ⟨[]⟩,vP bs,vS v]) [rA bs 0 (vS v)] H4 (by decide) (by kernel_rfl) ⟨((hS.bk 0 rfl).at1 rfl),trivial⟩ fun _ _ H13 hb => ?_
       replace hS:=hS.below hb
       clear H4 hb
       have hd:=hS.hand [0] [] rfl rfl
       refine m_stp0 [0,1,3] (fS [0,1,3] [.func (.yield lr) ⟨[]⟩ ⟨[]⟩,vP bs,vS v]) H13 rfl rfl rfl (o_store [vN] H13 hd rfl rfl (by kernel_rfl) rfl rfl rfl) rfl fun _ _ H15 hq => ?_
       clear H13 hd
       obtain ⟨_,hq⟩:=hq
       replace hS : SH F0 [bs] W4 [eB bs [vN]] _:=hS.join [0] [] rfl rfl hq
       clear hq
       apply wl_end rfl
       have hm:=someE hm
       have e1 : v = lnT v:=congrArg Prod.fst hm
       have e2 : [] = lnR v:=congrArg Prod.snd hm
       refine ⟨by rw [← e1]; exact FrG.keep (ks:=[0,1,3]) H15 (by kernel_rfl),hS.kp,by rw [← e2]; exact hS.bk 0 rfl⟩
      replace hm:=bT hc hm
      obtain ⟨ho6,hm⟩:=chkE hm
      obtain ⟨x7,hx7,hm⟩:=letE hm
      obtain ⟨x8,hx8,hm⟩:=letE hm
      refine w_drawS (base:=(fS [0,1,4] [.func (.yield lr) ⟨[]⟩ ⟨[]⟩,vP bs,vI (strings_IndexByte v 10)])) (L:=[eB bs [vS v]]) 10 1 (fun yg5 => [vS v,vI (strings_IndexByte v 10),vI (w64 ((strings_IndexByte v 10) + 1)),vS x7,vS v,vI (strings_IndexByte v 10),vI (w64 ((strings_IndexByte v 10) + 1)),vS x8,vS x7,undef]) (fun yg5 => [[],[],[],[],[],[],[],[],[],[eB bs [vS x8]]]) [[10],[],[],[],[10],[],[],[],[],[10]] [[],[],[],[],[],[],[],[],[],[10]] [[0],[1],[1,2],[0,1,2,3],[4],[5],[5,6],[4,5,6,7],[0,1,2,3,8],[4,5,6,7,9]] [] (FrG.keep (ks:=[0,1,4]) H4 (by kernel_rfl)) (fun _ _ h => by cases h) (by kernel_rfl) hS (by kernel_rfl) rfl rfl (by kernel_rfl) (by kernel_rfl) (by kernel_rfl) (gd_none (by kernel_rfl) _ _) ?hloc_yg5 ?hstep_yg5 fun _ _ yg5 H10 hv hS => ?hK_yg5
      case hloc_yg5 => exact ⟨(fun _ _ _ _ => ⟨rfl,rfl⟩),(fun _ _ _ _ => ⟨rfl,rfl⟩),(fun _ _ _ _ => ⟨rfl,rfl⟩),(fun _ _ _ _ => ⟨rfl,rfl⟩),(fun _ _ _ _ => ⟨rfl,rfl⟩),(fun _ _ _ _ => ⟨rfl,rfl⟩),(fun _ _ _ _ => ⟨rfl,rfl⟩),(fun _ _ _ _ => ⟨rfl,rfl⟩),(fun _ _ _ _ => ⟨rfl,rfl⟩),(fun _ _ _ _ => ⟨rfl,rfl⟩),trivial⟩
      case hstep_yg5 =>
       refine ⟨?_,?_,?_,?_,?_,?_,?_,?_,?_,?_,trivial⟩
       ·intro o ho a w yg5 M Hb hv hO hS
        obtain rfl:=someE ho
        exact Stp.mono (o_evs [(vS v)] (vS v) (some (rA bs 0 (vS v))) [] Hb rfl (by kernel_rfl) (fun q e => by cases e; exact ((hS.bk 0 rfl).at1 rfl))) fun _ _ hq => ⟨gL [],fun _ _ => hq.1,(hS.below hq.2.below).sel [0] rfl⟩
       ·intro o ho a w yg5 M Hb hv hO hS
        obtain rfl:=someE ho
        exact Stp.mono (o_evs [] (vI (strings_IndexByte v 10)) none [] Hb rfl (by kernel_rfl) (fun q e => by cases e)) fun _ _ hq => ⟨gL [],fun _ _ => hq.1,(hS.below hq.2.below).sel [] rfl⟩
       ·intro o ho a w yg5 M Hb hv hO hS
        obtain rfl:=someE ho
        exact Stp.mono (o_evs [] (vI (w64 ((strings_IndexByte v 10) + 1))) none [] ((Hb).add (hv 1 (by decide) (by decide) 13 rfl)) rfl (by kernel_rfl) (fun q e => by cases e)) fun _ _ hq => ⟨gL [],fun _ _ => hq.1,(hS.below hq.2.below).sel [] rfl⟩
       ·intro o ho a w yg5 M Hb hv hO hS
        obtain rfl:=someE ho
        exact Stp.mono (o_evs [] (vS x7) (some (fun _ => 0 ≤ (w64 ((strings_IndexByte v 10) + 1)) ∧ (w64 ((strings_IndexByte v 10) + 1)) ≤ ln v)) [] (((Hb).add (hv 0 (by decide) (by decide) 12 rfl)).add (hv 2 (by decide) (by decide) 14 rfl)) rfl (by subst hx7; kernel_rfl) (fun q e => by cases e; exact ho6)) fun _ _ hq => ⟨gL [],fun _ _ => hq.1,(hS.below hq.2.below).sel [] rfl⟩
       ·intro o ho a w yg5 M Hb hv hO hS
        obtain rfl:=someE ho
        exact Stp.mono (o_evs [(vS v)] (vS v) (some (rA bs 0 (vS v))) [] Hb rfl (by kernel_rfl) (fun q e => by cases e; exact ((hS.bk 0 rfl).at1 rfl))) fun _ _ hq => ⟨gL [],fun _ _ => hq.1,(hS.below hq.2.below).sel [0] rfl⟩
       ·intro o ho a w yg5 M Hb hv hO hS
        obtain rfl:=someE ho
        exact Stp.mono (o_evs [] (vI (strings_IndexByte v 10)) none [] Hb rfl (by kernel_rfl) (fun q e => by cases e)) fun _ _ hq => ⟨gL [],fun _ _ => hq.1,(hS.below hq.2.below).sel [] rfl⟩
       ·intro o ho a w yg5 M Hb hv hO hS
        obtain rfl:=someE ho
        exact Stp.mono (o_evs [] (vI (w64 ((strings_IndexByte v 10) + 1))) none [] ((Hb).add (hv 5 (by decide) (by decide) 17 rfl)) rfl (by kernel_rfl) (fun q e => by cases e)) fun _ _ hq => ⟨gL [],fun _ _ => hq.1,(hS.below hq.2.below).sel [] rfl⟩
       ·intro o ho a w yg5 M Hb hv hO hS
        obtain rfl:=someE ho
        exact Stp.mono (o_evs [] (vS x8) (some (fun _ => 0 ≤ (w64 ((strings_IndexByte v 10) + 1)) ∧ (w64 ((strings_IndexByte v 10) + 1)) ≤ ln v)) [] (((Hb).add (hv 4 (by decide) (by decide) 16 rfl)).add (hv 6 (by decide) (by decide) 18 rfl)) rfl (by subst hx8; kernel_rfl) (fun q e => by cases e; exact ho6)) fun _ _ hq => ⟨gL [],fun _ _ => hq.1,(hS.below hq.2.below).sel [] rfl⟩
       ·intro o ho a w yg5 M Hb hv hO hS
        obtain rfl:=someE ho
        exact Stp.mono (o_evs [] (vS x7) none [] ((Hb).add (hv 3 (by decide) (by decide) 15 rfl)) rfl (by kernel_rfl) (fun q e => by cases e)) fun _ _ hq => ⟨gL [],fun _ _ => hq.1,(hS.below hq.2.below).sel [] rfl⟩
       ·intro o ho a w yg5 M Hb hv hO hS0
        obtain rfl:=someE ho
        have H : Fr 25 ([(19,[],vS x8)] ++ (fS [0,1,4] [.func (.yield lr) ⟨[]⟩ ⟨[]⟩,vP bs,vI (strings_IndexByte v 10)])) _:=(Hb).add (hv 7 (by decide) (by decide) 19 rfl)
        obtain ⟨X,hX⟩ : ∃ X,X = fpl [eB bs [vS v]]:=⟨_,rfl⟩
        have hS : SH M X w [eB bs [vS v]] w:=by rw [hX]; exact hS0
        have hd:=hS.hand [0] [] rfl rfl
        refine Stp.mono (o_store [vS x8] H hd rfl rfl (by kernel_rfl) rfl rfl rfl) ?_
        rintro v w2 hq
        replace hS : SH M X w [eB bs [vS x8]] _:=hS.join [0] [] rfl rfl hq
        clear hq
        rw [hX] at hS
        exact ⟨gL [],(fun _ h => by cases h),hS.sel [0] rfl⟩
      have H11 : Fr 25 (fS [3,0,1] [vS x7,.func (.yield lr) ⟨[]⟩ ⟨[]⟩,vP bs]) _:=(FrG.add (FrG.keep (ks:=[0,1]) H10 (by kernel_rfl)) (hv 8 3 rfl))
      replace hS : SH F0 [bs] W4 [eB bs [vS x8]] _:=hS
      clear hv H10
      have hm:=someE hm
      have e1 : x7 = lnT v:=congrArg Prod.fst hm
      have e2 : x8 = lnR v:=congrArg Prod.snd hm
      refine ⟨by rw [← e1]; exact FrG.keep (ks:=[0,1,3]) H11 (by kernel_rfl),hS.kp,by rw [← e2]; exact hS.bk 0 rfl⟩
    · rintro _ W5 ⟨H,hkp,hbl⟩
      replace hJ : J kR (kR + 1) W5:=hmv _ _ (kR + 1) _ _ hJ hkp (by subst hv; exact hbl)
      clear hkp hbl
      refine r_seq ?_
      refine rl_reg ?_
      refine rl_batch 0 2 [] [0,1,21,22] (fS [0,1,21,22] [.func (.yield lr) ⟨[]⟩ ⟨[]⟩,vP bs,.func (.yield lr) ⟨[]⟩ ⟨[]⟩,vS (lnT v)]) [] H (by kernel_rfl) (by decide) (by kernel_rfl) trivial fun _ W6 H hb => ?_
      replace hJ:=hJb _ _ _ _ hJ hb
      clear hb
      have hy : YieldAt (FW none) 0 Tryd.prog lr ⟨[vS (lnT v)]⟩ W6 (fun e B => (e = .returned (vT) ∧ J (kR + 1) (kR + 1) B) ∨ (e = .returned (vF) ∧ Jx B)):=by subst hv; exact hY kR W6 hk hJ
      refine y_call [23,0,1] (fS [0,1] [.func (.yield lr) ⟨[]⟩ ⟨[]⟩,vP bs]) _ H rfl rfl rfl rfl (fun _ => rfl) hy ?_
      clear H
      rintro e W7 (⟨rfl,hJ7⟩ | ⟨rfl,hJ7⟩)
      · refine ⟨_,rfl,fun _ H => ?_⟩
        refine rl_batch 3 4 [] [0,1,24] (fS [0,1,24] [.func (.yield lr) ⟨[]⟩ ⟨[]⟩,vP bs,vF]) [] H (by kernel_rfl) (by decide) (by kernel_rfl) trivial fun _ W8 H hb => ?_
        replace hJ7:=hJb _ _ _ _ hJ7 hb
        clear hb
        refine rl_end rfl ?_
        refine r_if H rfl (fun hc => by cases hc) (fun _ => ?_)
        refine r_skip ?_
        exact ⟨q - 1,by omega,kR + 1,by omega,hJ7,FrG.keep (ks:=[0,1]) H (by kernel_rfl)⟩
      · refine ⟨_,rfl,fun _ H => ?_⟩
        refine rl_batch 3 4 [] [0,1,24] (fS [0,1,24] [.func (.yield lr) ⟨[]⟩ ⟨[]⟩,vP bs,vT]) [] H (by kernel_rfl) (by decide) (by kernel_rfl) trivial fun _ W8 H hb => ?_
        replace hJ7:=hJx _ _ hJ7 hb
        clear hb
        refine rl_end rfl ?_
        refine r_if H rfl (fun _ => ?_) (fun hc => by cases hc)
        refine r_ret ?_
        exact retR0 H rfl ⟨⟨_,rfl⟩,.inr hJ7⟩
  · have hk : kR = lnN s:=by
      rcases Nat.lt_or_ge kR (lnN s) with h | h
      · have:=lnK_pos s kR h
        rw [this] at hc
        cases hc
      · omega
    refine r_exit rfl ?_
    dsimp only
    subst hk
    exact retR0 H rfl ⟨⟨_,rfl⟩,.inl hJ⟩
theorem stringslite_TrimSuffix_w  (M : Av) (s : Str) (suffix : Str) (r : Str) (hm : stringslite_TrimSuffix s suffix = some r) (w : World) (hS : S0 M [] w) : Calls Tryd.prog 69 ⟨[vS s,vS suffix]⟩ w (fun e w' => ∃ v,e = .returned v ∧ v = vS r ∧ SH M (fpl []) w [] w'):=by
 rw [stringslite_TrimSuffix] at hm
 have hS0 : SH M (fpl []) w [] w:=hS
 generalize hX : fpl [] = X at hS0 ⊢
 clear hS hX
 have hS:=hS0
 clear hS0
 refine calls_entryP Tryd.func69 rfl Tryd.ntmps69 rfl fun _ H => ?_
 refine s_reg [] [0,1] (fS [0,1] [vS s,vS suffix]) [] H (by kernel_rfl) trivial fun _ _ H2 hb => ?_
 replace hS:=hS.below hb
 clear H hb
 apply w_seq
 obtain ⟨y3,hy3,hm⟩:=bindE hm
 refine s_reg [(vB y3)] [0,1,7] (fS [0,1,7] [vS s,vS suffix,vB y3]) [rB 63 [vS s,vS suffix] (vB y3)] H2 (by kernel_rfl) ⟨((stringslite_HasSuffix_ok _ _ _ hy3).b),trivial⟩ fun _ _ H5 hb => ?_
 replace hS:=hS.below hb
 clear H2 hb
 refine w_if H5 rfl (fun hc => ?_) (fun hc => ?c11)
 case c11 =>
  replace hm:=bF hc hm
  apply w_skip
  refine s_reg [] [4] [(4,[],vS s)] [] H5 (by kernel_rfl) trivial fun _ _ H10 hb => ?_
  replace hS:=hS.below hb
  clear H5 hb
  apply w_ret
  obtain rfl:=someE hm
  exact retR1 H10 rfl rfl ⟨_,rfl,rfl,(hS.sel [] rfl)⟩
 replace hm:=bT hc hm
 obtain ⟨ho6,hm⟩:=chkE hm
 refine s_reg [] [4] [(4,[],vS (sub s 0 (w64 ((ln s) - (ln suffix)))))] [fun _ => 0 ≤ (w64 ((ln s) - (ln suffix))) ∧ (w64 ((ln s) - (ln suffix))) ≤ ln s] H5 (by kernel_rfl) ⟨ho6,trivial⟩ fun _ _ H8 hb => ?_
 replace hS:=hS.below hb
 clear H5 hb
 apply w_ret
 obtain rfl:=someE hm
 exact retR1 H8 rfl rfl ⟨_,rfl,rfl,(hS.sel [] rfl)⟩
theorem stringslite_TrimSuffix_ok  (s : Str) (suffix : Str) (r : Str) (hm : stringslite_TrimSuffix s suffix = some r) : Ret Tryd.prog 69 ⟨[vS s,vS suffix]⟩ (vS r):=retP_of (Tryd.call69 _) (fun w h => stringslite_TrimSuffix_w F0   s suffix r hm w h)

theorem strings_TrimSuffix_w  (M : Av) (s : Str) (suffix : Str) (r : Str) (hm : strings_TrimSuffix s suffix = some r) (w : World) (hS : S0 M [] w) : Calls Tryd.prog 43 ⟨[vS s,vS suffix]⟩ w (fun e w' => ∃ v,e = .returned v ∧ v = vS r ∧ SH M (fpl []) w [] w'):=by
 rw [strings_TrimSuffix] at hm
 have hS0 : SH M (fpl []) w [] w:=hS
 generalize hX : fpl [] = X at hS0 ⊢
 clear hS hX
 have hS:=hS0
 clear hS0
 refine calls_entryP Tryd.func43 rfl Tryd.ntmps43 rfl fun _ H => ?_
 refine s_reg [] [0,1] (fS [0,1] [vS s,vS suffix]) [] H (by kernel_rfl) trivial fun _ _ H2 hb => ?_
 replace hS:=hS.below hb
 clear H hb
 obtain ⟨y3,hy3,hm⟩:=bindE hm
 refine s_reg [(vS y3)] [4] [(4,[],vS y3)] [rB 69 [vS s,vS suffix] (vS y3)] H2 (by kernel_rfl) ⟨((stringslite_TrimSuffix_ok _ _ _ hy3).b),trivial⟩ fun _ _ H5 hb => ?_
 replace hS:=hS.below hb
 clear H2 hb
 apply w_ret
 obtain rfl:=someE hm
 exact retR1 H5 rfl rfl ⟨_,rfl,rfl,(hS.sel [] rfl)⟩
theorem strings_TrimSuffix_ok  (s : Str) (suffix : Str) (r : Str) (hm : strings_TrimSuffix s suffix = some r) : Ret Tryd.prog 43 ⟨[vS s,vS suffix]⟩ (vS r):=retP_of (Tryd.call43 _) (fun w h => strings_TrimSuffix_w F0   s suffix r hm w h)

theorem nc_tyAnswer : TyNc tyAnswer:=⟨by decide,fun _ _ _ _ h => tyAnswer_mk (SlG.nc nc_S (tyAnswer_i0 h)) (SlG.nc (nc_I _) (tyAnswer_i1 h))⟩
theorem answer_ReadText_w  (M : Av) (m : Nat) (s : Str) (r : (List TAnswer) × Int) (hm : answer_ReadText m s = some r) (w : World) (hS : S0 M [Ent.gifc 2,Ent.gifc 3,Ent.tab 1 (Lib.pow10Tab.map fun z => Value.int .u64 z)] w) : Calls Tryd.prog 22 ⟨[vS s]⟩ w (fun e w' => ∃ v,e = .returned v ∧ ∃ (g901 : Gh),v = vW [vL g901 r.1,vI r.2] ∧ SH M (fpl [Ent.gifc 2,Ent.gifc 3,Ent.tab 1 (Lib.pow10Tab.map fun z => Value.int .u64 z)]) w [eO 26 tyAnswer r.1 g901] w'):=by
 rw [answer_ReadText] at hm
 have hS0 : SH M (fpl [Ent.gifc 2,Ent.gifc 3,Ent.tab 1 (Lib.pow10Tab.map fun z => Value.int .u64 z)]) w [Ent.gifc 2,Ent.gifc 3,Ent.tab 1 (Lib.pow10Tab.map fun z => Value.int .u64 z)] w:=hS
 generalize hX : fpl [Ent.gifc 2,Ent.gifc 3,Ent.tab 1 (Lib.pow10Tab.map fun z => Value.int .u64 z)] = X at hS0 ⊢
 clear hS hX
 have hS:=hS0
 clear hS0
 refine calls_entryM Tryd.func22 rfl Tryd.ntmps22 rfl fun _ H => ?_
 apply w_seq
 apply wl_start
 have hd:=hS.hand [] [0,1,2] rfl rfl
 refine m_stp [2,0] [(0,[],vS s)] H rfl rfl rfl rfl (o_alloc [vO] (z:=vO) hd (by kernel_rfl) rfl) (fun _ => rfl) fun _ _ v H3 hq => ?_
 clear H hd
 obtain ⟨b1,rfl,hq⟩:=hq
 replace hS : SH M X w [eB b1 [vO],Ent.gifc 2,Ent.gifc 3,Ent.tab 1 (Lib.pow10Tab.map fun z => Value.int .u64 z)] _:=hS.join [] [0,1,2] rfl rfl hq
 clear hq
 have hd:=hS.hand [] [0,1,2,3] rfl rfl
 refine m_stp [3,0,2] (fS [0,2] [vS s,vP b1]) H3 rfl rfl rfl rfl (o_alloc [vI 0] (z:=vI 0) hd (by kernel_rfl) rfl) (fun _ => rfl) fun _ _ v H6 hq => ?_
 clear H3 hd
 obtain ⟨b4,rfl,hq⟩:=hq
 replace hS : SH M X w [eB b4 [vI 0],eB b1 [vO],Ent.gifc 2,Ent.gifc 3,Ent.tab 1 (Lib.pow10Tab.map fun z => Value.int .u64 z)] _:=hS.join [] [0,1,2,3] rfl rfl hq
 clear hq
 apply wl_end rfl
 apply w_seq
 refine s_reg [] [0,2,3,10] (fS [0,2,3,10] [vS s,vP b1,vP b4,vB (decide (5400000 < (ln s)))]) [] H6 (by kernel_rfl) trivial fun _ _ H8 hb => ?_
 replace hS:=hS.below hb
 clear H6 hb
 refine w_if H8 rfl (fun hc => ?c88) (fun hc => ?_)
 case c88 =>
  replace hm:=bT hc hm
  apply w_seq
  apply wl_start
  have hd:=hS.hand [1] [0,2,3,4] rfl rfl
  refine m_stp0 [2,3] (fS [2,3] [vP b1,vP b4]) H8 rfl rfl rfl (o_store [vO] H8 hd rfl rfl (by kernel_rfl) rfl rfl rfl) rfl fun _ _ H10 hq => ?_
  clear H8 hd
  obtain ⟨_,hq⟩:=hq
  replace hS : SH M X w [eB b1 [vO],eB b4 [vI 0],Ent.gifc 2,Ent.gifc 3,Ent.tab 1 (Lib.pow10Tab.map fun z => Value.int .u64 z)] _:=hS.join [1] [0,2,3,4] rfl rfl hq
  clear hq
  have hd:=hS.hand [1] [0,2,3,4] rfl rfl
  refine m_stp0 [2,3] (fS [2,3] [vP b1,vP b4]) H10 rfl rfl rfl (o_store [vI 28] H10 hd rfl rfl (by kernel_rfl) rfl rfl rfl) rfl fun _ _ H12 hq => ?_
  clear H10 hd
  obtain ⟨_,hq⟩:=hq
  replace hS : SH M X w [eB b4 [vI 28],eB b1 [vO],Ent.gifc 2,Ent.gifc 3,Ent.tab 1 (Lib.pow10Tab.map fun z => Value.int .u64 z)] _:=hS.join [1] [0,2,3,4] rfl rfl hq
  clear hq
  apply wl_end rfl
  apply w_ret
  obtain rfl:=someE hm
  replace hS : SH M X w [eO 26 tyAnswer ([] : List TAnswer) (.nil),eB b4 [vI 28],eB b1 [vO],Ent.gifc 2,Ent.gifc 3,Ent.tab 1 (Lib.pow10Tab.map fun z => Value.int .u64 z)] _:=hS.addNil 26 tyAnswer
  refine RpM.of ?_
  exact retR2 H12 rfl (oneRes_one rfl (hS.bk 2 rfl) Tryd.underlying41 rfl) (oneRes_one rfl (hS.bk 1 rfl) Tryd.underlying22 rfl) ⟨_,rfl,Gh.nil,rfl,(hS.sel [0] rfl)⟩
 replace hm:=bF hc hm
 apply w_skip
 apply w_seq
 obtain ⟨y14,hy14,hm⟩:=bindE hm
 obtain ⟨y15,hy15,hm⟩:=bindE hm
 obtain ⟨x16,hx16,hm⟩:=letE hm
 refine s_reg [(vB y14),(vI y15)] [0,2,3,22] (fS [0,2,3,22] [vS s,vP b1,vP b4,vB x16]) [fun wz => ((!(s == [])) = true ∧ True → RetB Tryd.prog 40 ⟨[vS s,vS [10]]⟩ (vB y14) wz),fun wz => ((cond (!(s == [])) (!y14) false) = false ∧ True → RetB Tryd.prog 41 ⟨[vS s,vS [10]]⟩ (vI y15) wz)] H8 (by subst hx16; kernel_rfl) ⟨fun hg => (strings_HasSuffix_ok _ _ _ (bT (hg.1) hy14)).b,fun hg => (strings_Count_ok m _ _ _ (bF (hg.1) hy15)).b,trivial⟩ fun _ _ H18 hb => ?_
 replace hS:=hS.below hb
 clear H8 hb
 refine w_if H18 rfl (fun hc => ?c87) (fun hc => ?_)
 case c87 =>
  replace hm:=bT hc hm
  apply w_seq
  apply wl_start
  have hd:=hS.hand [1] [0,2,3,4] rfl rfl
  refine m_stp0 [2,3] (fS [2,3] [vP b1,vP b4]) H18 rfl rfl rfl (o_store [vO] H18 hd rfl rfl (by kernel_rfl) rfl rfl rfl) rfl fun _ _ H20 hq => ?_
  clear H18 hd
  obtain ⟨_,hq⟩:=hq
  replace hS : SH M X w [eB b1 [vO],eB b4 [vI 0],Ent.gifc 2,Ent.gifc 3,Ent.tab 1 (Lib.pow10Tab.map fun z => Value.int .u64 z)] _:=hS.join [1] [0,2,3,4] rfl rfl hq
  clear hq
  have hd:=hS.hand [1] [0,2,3,4] rfl rfl
  refine m_stp0 [2,3] (fS [2,3] [vP b1,vP b4]) H20 rfl rfl rfl (o_store [vI 12] H20 hd rfl rfl (by kernel_rfl) rfl rfl rfl) rfl fun _ _ H22 hq => ?_
  clear H20 hd
  obtain ⟨_,hq⟩:=hq
  replace hS : SH M X w [eB b4 [vI 12],eB b1 [vO],Ent.gifc 2,Ent.gifc 3,Ent.tab 1 (Lib.pow10Tab.map fun z => Value.int .u64 z)] _:=hS.join [1] [0,2,3,4] rfl rfl hq
  clear hq
  apply wl_end rfl
  apply w_ret
  obtain rfl:=someE hm
  replace hS : SH M X w [eO 26 tyAnswer ([] : List TAnswer) (.nil),eB b4 [vI 12],eB b1 [vO],Ent.gifc 2,Ent.gifc 3,Ent.tab 1 (Lib.pow10Tab.map fun z => Value.int .u64 z)] _:=hS.addNil 26 tyAnswer
  refine RpM.of ?_
  exact retR2 H22 rfl (oneRes_one rfl (hS.bk 2 rfl) Tryd.underlying41 rfl) (oneRes_one rfl (hS.bk 1 rfl) Tryd.underlying22 rfl) ⟨_,rfl,Gh.nil,rfl,(hS.sel [0] rfl)⟩
 replace hm:=bF hc hm
 apply w_skip
 apply w_seq
 apply wl_start
 have hd:=hS.hand [] [0,1,2,3,4] rfl rfl
 refine m_stp [4,0,2,3] (fS [0,2,3] [vS s,vP b1,vP b4]) H18 rfl rfl rfl rfl (o_alloc [vO] (z:=vO) hd (by kernel_rfl) rfl) (fun _ => rfl) fun _ _ v H26 hq => ?_
 clear H18 hd
 obtain ⟨b24,rfl,hq⟩:=hq
 replace hS : SH M X w [eB b24 [vO],eB b4 [vI 0],eB b1 [vO],Ent.gifc 2,Ent.gifc 3,Ent.tab 1 (Lib.pow10Tab.map fun z => Value.int .u64 z)] _:=hS.join [] [0,1,2,3,4] rfl rfl hq
 clear hq
 apply wl_end rfl
 apply w_seq
 apply w_seq
 apply wl_start
 refine wl_batch 0 1 [] [2,3,4,23] (fS [2,3,4,23] [vP b1,vP b4,vP b24,vS s]) [] H26 (by decide) (by kernel_rfl) trivial fun _ _ H28 hb => ?_
 replace hS:=hS.below hb
 clear H26 hb
 obtain ⟨y29,hy29,hm⟩:=letE hm
 have hd:=hS.hand [] [0,1,2,3,4,5] rfl rfl
 refine m_stp [24,2,3,4] (fS [2,3,4] [vP b1,vP b4,vP b24]) H28 rfl rfl rfl rfl (o_callx H28 rfl rfl (strings_Lines_ok _ _ hy29.symm _ _ hd)) (fun _ => rfl) fun _ _ v H32 hq => ?_
 clear H28 hd
 obtain ⟨b30,rfl,hq⟩:=hq
 replace hS : SH M X w [eB b30 [vS y29],eB b24 [vO],eB b4 [vI 0],eB b1 [vO],Ent.gifc 2,Ent.gifc 3,Ent.tab 1 (Lib.pow10Tab.map fun z => Value.int .u64 z)] _:=hS.join [] [0,1,2,3,4,5] rfl rfl hq
 clear hq
 apply wl_end rfl
 apply w_block
 replace hS : SH M X w [eO 26 tyAnswer ([] : List TAnswer) (.nil),eB b30 [vS y29],eB b24 [vO],eB b4 [vI 0],eB b1 [vO],Ent.gifc 2,Ent.gifc 3,Ent.tab 1 (Lib.pow10Tab.map fun z => Value.int .u64 z)] _:=hS.addNil 26 tyAnswer
 replace hS : SH M X w [eB b30 [vS y29],eO 26 tyAnswer ([] : List TAnswer) (.nil),eB b24 [.slice Gh.nil.a (([] : List TAnswer).length) Gh.nil.c],eB b4 [vI 0],eB b1 [vO],Ent.gifc 2,Ent.gifc 3,Ent.tab 1 (Lib.pow10Tab.map fun z => Value.int .u64 z)] _:=hS.sel [1,0,2,3,4,5,6,7] rfl
 obtain ⟨ho86,hm⟩:=chkE hm
 refine w_rangeJ (fr:=(fS [2,3,4,24] [vP b1,vP b4,vP b24,.func (.func 67) ⟨[]⟩ ⟨[vP b30]⟩])) (fun kR (sR : (List TAnswer) × Gh) => ∃ kk,answer_ReadText_L1 m  kk (lnK y29 kR) sR.1 = some r) (fun p (sR : (List TAnswer) × Gh) => [eB b30 [vS (lnK y29 p)],eO 26 tyAnswer sR.1 sR.2,eB b24 [.slice sR.2.a sR.1.length sR.2.c],eB b4 [vI 0],eB b1 [vO],Ent.gifc 2,Ent.gifc 3,Ent.tab 1 (Lib.pow10Tab.map fun z => Value.int .u64 z)]) (fun (yR : Int) => ([],yR) = r) (fun yR => [eB b1 [vO],eB b4 [vI yR]]) (fun kR => (fS [25,2,3,4,24] [vS (lnT (lnK y29 kR)),vP b1,vP b4,vP b24,.func (.func 67) ⟨[]⟩ ⟨[vP b30]⟩])) (fun kR (sR : (List TAnswer) × Gh) (dR : Unit) => (fS [2,3,4,5] [vP b1,vP b4,vP b24,vS (lnT (lnK y29 kR))])) (fun kR (sR : (List TAnswer) × Gh) dR => [eB b30 [vS (lnR (lnK y29 kR))],eO 26 tyAnswer sR.1 sR.2,eB b24 [.slice sR.2.a sR.1.length sR.2.c],eB b4 [vI 0],eB b1 [vO],Ent.gifc 2,Ent.gifc 3,Ent.tab 1 (Lib.pow10Tab.map fun z => Value.int .u64 z)]) 67 [vP b30] (fun kR => [vS (lnT (lnK y29 kR))]) (lnN y29) b30 (fun p => [vS (lnK y29 p)]) (FrG.keep (ks:=[2,3,4,24]) H32 (by kernel_rfl)) (by kernel_rfl) (fun args => Tryd.call67 args) (([] : List TAnswer),Gh.nil) ⟨m,?h0_1⟩ hS (fun _ _ => ⟨nc_blk _ _,⟨nc_own nc_tyAnswer _ _ _,⟨nc_blk _ _,⟨nc_blk _ _,⟨nc_blk _ _,⟨nc_gifc _,⟨nc_gifc _,⟨nc_tab _ _,trivial⟩⟩⟩⟩⟩⟩⟩⟩) (fun _ _ _ => ⟨nc_blk _ _,⟨nc_own nc_tyAnswer _ _ _,⟨nc_blk _ _,⟨nc_blk _ _,⟨nc_blk _ _,⟨nc_gifc _,⟨nc_gifc _,⟨nc_tab _ _,trivial⟩⟩⟩⟩⟩⟩⟩⟩) (fun _ => ⟨nc_blk _ _,⟨nc_blk _ _,trivial⟩⟩) (lines67 y29 b30 _ ho86) (fun _ => rfl) (fun _ _ _ hS => hS.bk 0 rfl) (fun _ _ => .head _) (fun _ _ _ _ _ hS hk hb => hS.move hk hb) (fun _ _ _ hd ht => fr_one (l:=(fS [2,3,4,24] [vP b1,vP b4,vP b24,.func (.func 67) ⟨[]⟩ ⟨[vP b30]⟩])) (FrG.keep (ks:=[2,3,4,24]) H32 (by kernel_rfl)) (by kernel_rfl) (by kernel_rfl) hd (ht.trans (zip_one _))) ?ha_1 ?hb_1 ?hn_1 ?hr_1
 case h0_1 => exact hm
 case ha_1 =>
  intro lR kR sR wR aR hk _ H hS
  obtain ⟨v35,g36⟩:=sR
  obtain ⟨v34,hvi⟩ : ∃ v,v = lnK y29 kR:=⟨_,rfl⟩
  replace H : Fr 39 (fS [25,2,3,4,24] [vS (lnT v34),vP b1,vP b4,vP b24,.func (.func 67) ⟨[]⟩ ⟨[vP b30]⟩]) aR:=by subst hvi; exact H
  replace hS : SH M (fpl [eB b30 [vS (lnR v34)],eO 26 tyAnswer v35 g36,eB b24 [vL g36 v35],eB b4 [vI 0],eB b1 [vO],Ent.gifc 2,Ent.gifc 3,Ent.tab 1 (Lib.pow10Tab.map fun z => Value.int .u64 z)]) wR [eB b30 [vS (lnR v34)],eO 26 tyAnswer v35 g36,eB b24 [vL g36 v35],eB b4 [vI 0],eB b1 [vO],Ent.gifc 2,Ent.gifc 3,Ent.tab 1 (Lib.pow10Tab.map fun z => Value.int .u64 z)] wR:=by subst hvi; exact hS
  show Code.wpIn _ _ _ _ (Qs (fun a1 W1 => ∃ dR : Unit,Fr 39 (fS [2,3,4,5] [vP b1,vP b4,vP b24,vS (lnT (lnK y29 kR))]) a1 ∧ SH M (fpl [eB b30 [vS (lnR (lnK y29 kR))],eO 26 tyAnswer v35 g36,eB b24 [vL g36 v35],eB b4 [vI 0],eB b1 [vO],Ent.gifc 2,Ent.gifc 3,Ent.tab 1 (Lib.pow10Tab.map fun z => Value.int .u64 z)]) wR [eB b30 [vS (lnR (lnK y29 kR))],eO 26 tyAnswer v35 g36,eB b24 [vL g36 v35],eB b4 [vI 0],eB b1 [vO],Ent.gifc 2,Ent.gifc 3,Ent.tab 1 (Lib.pow10Tab.map fun z => Value.int .u64 z)] W1) [] _) _ _
  rw [← hvi]
  refine r_reg [] [2,3,4,5] (fS [2,3,4,5] [vP b1,vP b4,vP b24,vS (lnT v34)]) [] H (by kernel_rfl) (by kernel_rfl) trivial fun _ _ H38 hb => ?_
  replace hS:=hS.below hb
  clear H hb
  exact ⟨(),FrG.keep (ks:=[2,3,4,5]) H38 (by kernel_rfl),hS⟩
 case hb_1 =>
  intro lR kR sR dR wR aR hk hC H hS
  obtain ⟨v35,g36⟩:=sR
  obtain ⟨v34,hvi⟩ : ∃ v,v = lnK y29 kR:=⟨_,rfl⟩
  obtain ⟨kk,hm⟩:=hC
  replace hm : answer_ReadText_L1 m  kk v34 v35 = some r:=by subst hvi; exact hm
  replace H : Fr 39 (fS [2,3,4,5] [vP b1,vP b4,vP b24,vS (lnT v34)]) aR:=by subst hvi; exact H
  replace hS : SH M (fpl [eB b30 [vS (lnR v34)],eO 26 tyAnswer v35 g36,eB b24 [vL g36 v35],eB b4 [vI 0],eB b1 [vO],Ent.gifc 2,Ent.gifc 3,Ent.tab 1 (Lib.pow10Tab.map fun z => Value.int .u64 z)]) wR [eB b30 [vS (lnR v34)],eO 26 tyAnswer v35 g36,eB b24 [vL g36 v35],eB b4 [vI 0],eB b1 [vO],Ent.gifc 2,Ent.gifc 3,Ent.tab 1 (Lib.pow10Tab.map fun z => Value.int .u64 z)] wR:=by subst hvi; exact hS
  have hpos : decide (0 < ln v34) = true:=by subst hvi; exact lnK_pos _ _ hk
  show Code.wpIn _ _ _ _ (Qs (fun _ W1 => ∃ sR : (List TAnswer) × Gh,(∃ kk,answer_ReadText_L1 m  kk (lnR (lnK y29 kR)) sR.1 = some r) ∧ SH M (fpl [eB b30 [vS (lnR (lnK y29 kR))],eO 26 tyAnswer v35 g36,eB b24 [vL g36 v35],eB b4 [vI 0],eB b1 [vO],Ent.gifc 2,Ent.gifc 3,Ent.tab 1 (Lib.pow10Tab.map fun z => Value.int .u64 z)]) wR [eB b30 [vS (lnR (lnK y29 kR))],eO 26 tyAnswer sR.1 sR.2,eB b24 [.slice sR.2.a sR.1.length sR.2.c],eB b4 [vI 0],eB b1 [vO],Ent.gifc 2,Ent.gifc 3,Ent.tab 1 (Lib.pow10Tab.map fun z => Value.int .u64 z)] W1) [] (fun _ W1 => ∃ yR : Int,([],yR) = r ∧ SH M (fpl [eB b30 [vS (lnR (lnK y29 kR))],eO 26 tyAnswer v35 g36,eB b24 [vL g36 v35],eB b4 [vI 0],eB b1 [vO],Ent.gifc 2,Ent.gifc 3,Ent.tab 1 (Lib.pow10Tab.map fun z => Value.int .u64 z)]) wR [eB b1 [vO],eB b4 [vI yR]] W1)) _ _
  rw [← hvi]
  clear hvi
  cases kk with
  | zero => exact noneE hm
  | succ kk =>
   rw [answer_ReadText_L1] at hm
   replace hm:=bT hpos hm
   refine r_block ?_
   refine r_seq ?_
   refine rl_start (by kernel_rfl) ?_
   obtain ⟨y39,hy39,hm⟩:=bindE hm
   refine wl_batch 0 2 [(vS y39)] [2,3,4,28] (fS [2,3,4,28] [vP b1,vP b4,vP b24,vS y39]) [rB 43 [vS (lnT v34),vS [10]] (vS y39)] H (by decide) (by kernel_rfl) ⟨((strings_TrimSuffix_ok _ _ _ hy39).b),trivial⟩ fun _ _ H41 hb => ?_
   replace hS:=hS.below hb
   clear H hb
   obtain ⟨y42,hy42,hm⟩:=bindE hm
   have hd:=hS.hand [5,6,7] [0,1,2,3,4,5,6,7] rfl rfl
   refine m_stp [29,2,3,4] (fS [2,3,4] [vP b1,vP b4,vP b24]) H41 rfl rfl rfl rfl (o_callx H41 rfl rfl (answer_ReadLine_ok m _ _ hy42 _ _ hd)) (fun _ => rfl) fun _ _ v H48 hq => ?_
   clear H41 hd
   obtain ⟨g43,g45,rfl,hq⟩:=hq
   replace hS : SH M (fpl [eB b30 [vS (lnR v34)],eO 26 tyAnswer v35 g36,eB b24 [vL g36 v35],eB b4 [vI 0],eB b1 [vO],Ent.gifc 2,Ent.gifc 3,Ent.tab 1 (Lib.pow10Tab.map fun z => Value.int .u64 z)]) wR [eI tS y42.1.Texts g43,eO 3 (tI .i64) y42.1.Numbers g45,eB b30 [vS (lnR v34)],eO 26 tyAnswer v35 g36,eB b24 [vL g36 v35],eB b4 [vI 0],eB b1 [vO],Ent.gifc 2,Ent.gifc 3,Ent.tab 1 (Lib.pow10Tab.map fun z => Value.int .u64 z)] _:=hS.join [5,6,7] [0,1,2,3,4,5,6,7] rfl rfl hq
   clear hq
   refine wl_batch 3 6 [] [2,3,4,30,31] (fS [2,3,4,30,31] [vP b1,vP b4,vP b24,vG [vI y42.1.Err,vI y42.1.Num,vL g43 y42.1.Texts,vL g45 y42.1.Numbers],vI y42.2]) [] H48 (by decide) (by kernel_rfl) trivial fun _ _ H50 hb => ?_
   replace hS:=hS.below hb
   clear H48 hb
   have hd:=hS.hand [] [0,1,2,3,4,5,6,7,8,9] rfl rfl
   refine m_stp [6,2,3,4,30,31] (fS [2,3,4,30,31] [vP b1,vP b4,vP b24,vG [vI y42.1.Err,vI y42.1.Num,vL g43 y42.1.Texts,vL g45 y42.1.Numbers],vI y42.2]) H50 rfl rfl rfl rfl (o_alloc [vI 0,vI 0,vO,vO] (z:=vG [vI 0,vI 0,vO,vO]) hd (by kernel_rfl) rfl) (fun _ => rfl) fun _ _ v H53 hq => ?_
   clear H50 hd
   obtain ⟨b51,rfl,hq⟩:=hq
   replace hS : SH M (fpl [eB b30 [vS (lnR v34)],eO 26 tyAnswer v35 g36,eB b24 [vL g36 v35],eB b4 [vI 0],eB b1 [vO],Ent.gifc 2,Ent.gifc 3,Ent.tab 1 (Lib.pow10Tab.map fun z => Value.int .u64 z)]) wR [eB b51 [vI 0,vI 0,vO,vO],eI tS y42.1.Texts g43,eO 3 (tI .i64) y42.1.Numbers g45,eB b30 [vS (lnR v34)],eO 26 tyAnswer v35 g36,eB b24 [vL g36 v35],eB b4 [vI 0],eB b1 [vO],Ent.gifc 2,Ent.gifc 3,Ent.tab 1 (Lib.pow10Tab.map fun z => Value.int .u64 z)] _:=hS.join [] [0,1,2,3,4,5,6,7,8,9] rfl rfl hq
   clear hq
   have hd:=hS.hand [0] [1,2,3,4,5,6,7,8,9,10] rfl rfl
   refine m_stp0 [2,3,4,6,31] (fS [2,3,4,6,31] [vP b1,vP b4,vP b24,vP b51,vI y42.2]) H53 rfl rfl rfl (o_store [vI y42.1.Err,vI y42.1.Num,vL g43 y42.1.Texts,vL g45 y42.1.Numbers] H53 hd rfl rfl (by kernel_rfl) rfl rfl rfl) rfl fun _ _ H55 hq => ?_
   clear H53 hd
   obtain ⟨_,hq⟩:=hq
   replace hS : SH M (fpl [eB b30 [vS (lnR v34)],eO 26 tyAnswer v35 g36,eB b24 [vL g36 v35],eB b4 [vI 0],eB b1 [vO],Ent.gifc 2,Ent.gifc 3,Ent.tab 1 (Lib.pow10Tab.map fun z => Value.int .u64 z)]) wR [eB b51 [vI y42.1.Err,vI y42.1.Num,vL g43 y42.1.Texts,vL g45 y42.1.Numbers],eI tS y42.1.Texts g43,eO 3 (tI .i64) y42.1.Numbers g45,eB b30 [vS (lnR v34)],eO 26 tyAnswer v35 g36,eB b24 [vL g36 v35],eB b4 [vI 0],eB b1 [vO],Ent.gifc 2,Ent.gifc 3,Ent.tab 1 (Lib.pow10Tab.map fun z => Value.int .u64 z)] _:=hS.join [0] [1,2,3,4,5,6,7,8,9,10] rfl rfl hq
   clear hq
   refine wl_batch 8 9 [] [2,3,4,6,7] (fS [2,3,4,6,7] [vP b1,vP b4,vP b24,vP b51,vI y42.2]) [] H55 (by decide) (by kernel_rfl) trivial fun _ _ H57 hb => ?_
   replace hS:=hS.below hb
   clear H55 hb
   apply wl_end rfl
   refine r_seq ?_
   refine sr_reg [] [2,3,4,6,33] (fS [2,3,4,6,33] [vP b1,vP b4,vP b24,vP b51,vB (y42.2 != 0)]) [] H57 (by kernel_rfl) (by kernel_rfl) trivial fun _ _ H59 hb => ?_
   replace hS:=hS.below hb
   clear H57 hb
   refine r_if H59 rfl (fun hc => ?c77) (fun hc => ?_)
   case c77 =>
    replace hm:=bT hc hm
    refine r_seq ?_
    refine rl_start (by kernel_rfl) ?_
    have hd:=hS.hand [7] [0,1,2,3,4,5,6,8,9,10] rfl rfl
    refine m_stp0 [2,3] (fS [2,3] [vP b1,vP b4]) H59 rfl rfl rfl (o_store [vO] H59 hd rfl rfl (by kernel_rfl) rfl rfl rfl) rfl fun _ _ H61 hq => ?_
    clear H59 hd
    obtain ⟨_,hq⟩:=hq
    replace hS : SH M (fpl [eB b30 [vS (lnR v34)],eO 26 tyAnswer v35 g36,eB b24 [vL g36 v35],eB b4 [vI 0],eB b1 [vO],Ent.gifc 2,Ent.gifc 3,Ent.tab 1 (Lib.pow10Tab.map fun z => Value.int .u64 z)]) wR [eB b1 [vO],eB b51 [vI y42.1.Err,vI y42.1.Num,vL g43 y42.1.Texts,vL g45 y42.1.Numbers],eI tS y42.1.Texts g43,eO 3 (tI .i64) y42.1.Numbers g45,eB b30 [vS (lnR v34)],eO 26 tyAnswer v35 g36,eB b24 [vL g36 v35],eB b4 [vI 0],Ent.gifc 2,Ent.gifc 3,Ent.tab 1 (Lib.pow10Tab.map fun z => Value.int .u64 z)] _:=hS.join [7] [0,1,2,3,4,5,6,8,9,10] rfl rfl hq
    clear hq
    have hd:=hS.hand [7] [0,1,2,3,4,5,6,8,9,10] rfl rfl
    refine m_stp0 [2,3] (fS [2,3] [vP b1,vP b4]) H61 rfl rfl rfl (o_store [vI 12] H61 hd rfl rfl (by kernel_rfl) rfl rfl rfl) rfl fun _ _ H63 hq => ?_
    clear H61 hd
    obtain ⟨_,hq⟩:=hq
    replace hS : SH M (fpl [eB b30 [vS (lnR v34)],eO 26 tyAnswer v35 g36,eB b24 [vL g36 v35],eB b4 [vI 0],eB b1 [vO],Ent.gifc 2,Ent.gifc 3,Ent.tab 1 (Lib.pow10Tab.map fun z => Value.int .u64 z)]) wR [eB b4 [vI 12],eB b1 [vO],eB b51 [vI y42.1.Err,vI y42.1.Num,vL g43 y42.1.Texts,vL g45 y42.1.Numbers],eI tS y42.1.Texts g43,eO 3 (tI .i64) y42.1.Numbers g45,eB b30 [vS (lnR v34)],eO 26 tyAnswer v35 g36,eB b24 [vL g36 v35],Ent.gifc 2,Ent.gifc 3,Ent.tab 1 (Lib.pow10Tab.map fun z => Value.int .u64 z)] _:=hS.join [7] [0,1,2,3,4,5,6,8,9,10] rfl rfl hq
    clear hq
    apply wl_end rfl
    replace hS : SH M (fpl [eB b30 [vS (lnR v34)],eO 26 tyAnswer v35 g36,eB b24 [vL g36 v35],eB b4 [vI 0],eB b1 [vO],Ent.gifc 2,Ent.gifc 3,Ent.tab 1 (Lib.pow10Tab.map fun z => Value.int .u64 z)]) wR [eB b4 [vI 12],eB b1 [vO],eB b30 [vS (lnR v34)],eO 26 tyAnswer v35 g36,eB b24 [vL g36 v35],Ent.gifc 2,Ent.gifc 3,Ent.tab 1 (Lib.pow10Tab.map fun z => Value.int .u64 z)] _:=hS.sel [0,1,5,6,7,8,9,10] rfl
    refine r_ret ?_
    exact ⟨12,someE hm,hS.sel [1,0] rfl⟩
   replace hm:=bF hc hm
   refine r_skip ?_
   refine rl_start (by kernel_rfl) ?_
   refine wl_batch 0 2 [(vL g36 v35),(vG [vI y42.1.Err,vI y42.1.Num,vL g43 y42.1.Texts,vL g45 y42.1.Numbers])] [4,34,35] (fS [4,34,35] [vP b24,vL g36 v35,vG [vI y42.1.Err,vI y42.1.Num,vL g43 y42.1.Texts,vL g45 y42.1.Numbers]]) [rA b24 0 (vL g36 v35),rN b51 0 [vI y42.1.Err,vI y42.1.Num,vL g43 y42.1.Texts,vL g45 y42.1.Numbers]] H59 (by decide) (by kernel_rfl) ⟨((hS.bk 5 rfl).at1 rfl),((hS.bk 0 rfl).atD rfl),trivial⟩ fun _ _ H65 hb => ?_
   replace hS:=hS.below hb
   clear H59 hb
   replace hS : SH M (fpl [eB b30 [vS (lnR v34)],eO 26 tyAnswer v35 g36,eB b24 [vL g36 v35],eB b4 [vI 0],eB b1 [vO],Ent.gifc 2,Ent.gifc 3,Ent.tab 1 (Lib.pow10Tab.map fun z => Value.int .u64 z)]) wR [eI (tI .i64) y42.1.Numbers g45,eB b51 [vI y42.1.Err,vI y42.1.Num,vL g43 y42.1.Texts,vL g45 y42.1.Numbers],eI tS y42.1.Texts g43,eB b30 [vS (lnR v34)],eO 26 tyAnswer v35 g36,eB b24 [vL g36 v35],eB b4 [vI 0],eB b1 [vO],Ent.gifc 2,Ent.gifc 3,Ent.tab 1 (Lib.pow10Tab.map fun z => Value.int .u64 z)] _:=SH.frz1 (hS.sel [2,0,1,3,4,5,6,7,8,9,10] rfl)
   have hd:=hS.hand [2,0] [0,1,2,3,4,5,6,7,8,9,10] rfl rfl
   refine m_stp [36,4,34] (fS [4,34] [vP b24,vL g36 v35]) H65 rfl rfl rfl rfl (o_lit (T:=tyAnswer) (E:=26) (zv:=vG [vI 0,vI 0,vO,vO]) [vI y42.1.Err,vI y42.1.Num,vL g43 y42.1.Texts,vL g45 y42.1.Numbers] ([y42.1] : List TAnswer) [gL [g43,g45]] _ H65 hd rfl (by kernel_rfl) (by kernel_rfl) (by kernel_rfl) (by kernel_rfl) (by kernel_rfl) (by kernel_rfl) (by kernel_rfl) rfl (InnL.cons (tyAnswer_mk (hd.im 0 rfl) (hd.im 1 rfl)) InnL.nil)) (fun _ => rfl) fun _ _ v H69 hq => ?_
   clear H65 hd
   obtain ⟨g66,rfl,hq⟩:=hq
   replace hS : SH M (fpl [eB b30 [vS (lnR v34)],eO 26 tyAnswer v35 g36,eB b24 [vL g36 v35],eB b4 [vI 0],eB b1 [vO],Ent.gifc 2,Ent.gifc 3,Ent.tab 1 (Lib.pow10Tab.map fun z => Value.int .u64 z)]) wR [eO 26 tyAnswer ([y42.1] : List TAnswer) g66,eI (tI .i64) y42.1.Numbers g45,eB b51 [vI y42.1.Err,vI y42.1.Num,vL g43 y42.1.Texts,vL g45 y42.1.Numbers],eI tS y42.1.Texts g43,eB b30 [vS (lnR v34)],eO 26 tyAnswer v35 g36,eB b24 [vL g36 v35],eB b4 [vI 0],eB b1 [vO],Ent.gifc 2,Ent.gifc 3,Ent.tab 1 (Lib.pow10Tab.map fun z => Value.int .u64 z)] _:=hS.join [2,0] [0,1,2,3,4,5,6,7,8,9,10] rfl rfl hq
   clear hq
   obtain ⟨ho70,hm⟩:=chkE hm
   obtain ⟨q71,hq71,hm⟩:=letE hm
   have hd:=hS.hand [5,0] [1,2,3,4,6,7,8,9,10,11] rfl rfl
   refine m_stp [37,4] [(4,[],vP b24)] H69 rfl rfl rfl rfl (o_app2 (T:=tyAnswer) (zv:=vG [vI 0,vI 0,vO,vO]) (g1:=g36) (g2:=g66) (l1:=v35) (l2:=([y42.1] : List TAnswer)) q71 hq71.symm H69 hd rfl rfl rfl rfl rfl rfl rfl (by kernel_rfl) (by kernel_rfl) rfl rfl ho70) (fun _ => rfl) fun _ _ v H73 hq => ?_
   clear H69 hd
   obtain ⟨g74,rfl,hq⟩:=hq
   replace hS : SH M (fpl [eB b30 [vS (lnR v34)],eO 26 tyAnswer v35 g36,eB b24 [vL g36 v35],eB b4 [vI 0],eB b1 [vO],Ent.gifc 2,Ent.gifc 3,Ent.tab 1 (Lib.pow10Tab.map fun z => Value.int .u64 z)]) wR [eO 26 tyAnswer q71 g74,eO 26 tyAnswer ([y42.1] : List TAnswer) g66,eI (tI .i64) y42.1.Numbers g45,eB b51 [vI y42.1.Err,vI y42.1.Num,vL g43 y42.1.Texts,vL g45 y42.1.Numbers],eI tS y42.1.Texts g43,eB b30 [vS (lnR v34)],eB b24 [vL g36 v35],eB b4 [vI 0],eB b1 [vO],Ent.gifc 2,Ent.gifc 3,Ent.tab 1 (Lib.pow10Tab.map fun z => Value.int .u64 z)] _:=hS.join [5,0] [1,2,3,4,6,7,8,9,10,11] rfl rfl hq
   clear hq
   have hd:=hS.hand [6] [0,1,2,3,4,5,7,8,9,10,11] rfl rfl
   refine m_stp0 [] [] H73 rfl rfl rfl (o_store [vL g74 q71] H73 hd rfl rfl (by kernel_rfl) rfl rfl rfl) rfl fun _ _ H76 hq => ?_
   clear H73 hd
   obtain ⟨_,hq⟩:=hq
   replace hS : SH M (fpl [eB b30 [vS (lnR v34)],eO 26 tyAnswer v35 g36,eB b24 [vL g36 v35],eB b4 [vI 0],eB b1 [vO],Ent.gifc 2,Ent.gifc 3,Ent.tab 1 (Lib.pow10Tab.map fun z => Value.int .u64 z)]) wR [eB b24 [vL g74 q71],eO 26 tyAnswer q71 g74,eO 26 tyAnswer ([y42.1] : List TAnswer) g66,eI (tI .i64) y42.1.Numbers g45,eB b51 [vI y42.1.Err,vI y42.1.Num,vL g43 y42.1.Texts,vL g45 y42.1.Numbers],eI tS y42.1.Texts g43,eB b30 [vS (lnR v34)],eB b4 [vI 0],eB b1 [vO],Ent.gifc 2,Ent.gifc 3,Ent.tab 1 (Lib.pow10Tab.map fun z => Value.int .u64 z)] _:=hS.join [6] [0,1,2,3,4,5,7,8,9,10,11] rfl rfl hq
   clear hq
   apply wl_end rfl
   replace hS : SH M (fpl [eB b30 [vS (lnR v34)],eO 26 tyAnswer v35 g36,eB b24 [vL g36 v35],eB b4 [vI 0],eB b1 [vO],Ent.gifc 2,Ent.gifc 3,Ent.tab 1 (Lib.pow10Tab.map fun z => Value.int .u64 z)]) wR [eB b24 [vL g74 q71],eO 26 tyAnswer q71 g74,eB b30 [vS (lnR v34)],eB b4 [vI 0],eB b1 [vO],Ent.gifc 2,Ent.gifc 3,Ent.tab 1 (Lib.pow10Tab.map fun z => Value.int .u64 z)] _:=hS.sel [0,1,6,7,8,9,10,11] rfl
   exact ⟨(q71,g74),⟨kk,hm⟩,hS.sel [2,1,0,3,4,5,6,7] rfl⟩
 case hn_1 =>
  intro sR bD78 aR wR hb_bD78 hC H hS
  obtain ⟨v35,g36⟩:=sR
  obtain ⟨kk,hm⟩:=hC
  replace hm : answer_ReadText_L1 m  kk (lnK y29 (lnN y29)) v35 = some r:=hm
  replace H : FrG [mk bD78] 39 (fS [2,3,4,24] [vP b1,vP b4,vP b24,.func (.func 67) ⟨[]⟩ ⟨[vP b30]⟩]) aR:=H
  replace hS : SH M X w [Ent.obj bD78 dEnd,eB b30 [vS (lnK y29 (lnN y29))],eO 26 tyAnswer v35 g36,eB b24 [vL g36 v35],eB b4 [vI 0],eB b1 [vO],Ent.gifc 2,Ent.gifc 3,Ent.tab 1 (Lib.pow10Tab.map fun z => Value.int .u64 z)] wR:=hS
  rw [lnK_end] at hS hm
  cases kk with
  | zero => exact noneE hm
  | succ kk =>
   rw [answer_ReadText_L1] at hm
   replace hm:=bF rfl hm
   apply w_seq
   apply wl_start
   refine wl_batch 0 1 [(vL g36 v35)] [2,3,38] (fS [2,3,38] [vP b1,vP b4,vL g36 v35]) [rA b24 0 (vL g36 v35)] H (by decide) (by kernel_rfl) ⟨((hS.bk 3 rfl).at1 rfl),trivial⟩ fun _ _ H80 hb => ?_
   replace hS:=hS.below hb
   clear H hb
   have hd:=hS.hand [5] [0,1,2,3,4,6,7,8] rfl rfl
   refine m_stp0 [2,3] (fS [2,3] [vP b1,vP b4]) H80 rfl rfl rfl (o_store [vL g36 v35] H80 hd rfl rfl (by kernel_rfl) rfl rfl rfl) rfl fun _ _ H82 hq => ?_
   clear H80 hd
   obtain ⟨_,hq⟩:=hq
   replace hS : SH M X w [eB b1 [vL g36 v35],Ent.obj bD78 dEnd,eB b30 [vN],eO 26 tyAnswer v35 g36,eB b24 [vL g36 v35],eB b4 [vI 0],Ent.gifc 2,Ent.gifc 3,Ent.tab 1 (Lib.pow10Tab.map fun z => Value.int .u64 z)] _:=hS.join [5] [0,1,2,3,4,6,7,8] rfl rfl hq
   clear hq
   have hd:=hS.hand [5] [0,1,2,3,4,6,7,8] rfl rfl
   refine m_stp0 [2,3] (fS [2,3] [vP b1,vP b4]) H82 rfl rfl rfl (o_store [vI 0] H82 hd rfl rfl (by kernel_rfl) rfl rfl rfl) rfl fun _ _ H84 hq => ?_
   clear H82 hd
   obtain ⟨_,hq⟩:=hq
   replace hS : SH M X w [eB b4 [vI 0],eB b1 [vL g36 v35],Ent.obj bD78 dEnd,eB b30 [vN],eO 26 tyAnswer v35 g36,eB b24 [vL g36 v35],Ent.gifc 2,Ent.gifc 3,Ent.tab 1 (Lib.pow10Tab.map fun z => Value.int .u64 z)] _:=hS.join [5] [0,1,2,3,4,6,7,8] rfl rfl hq
   clear hq
   apply wl_end rfl
   replace hS : SH M X w [eB b4 [vI 0],eB b1 [vL g36 v35],Ent.obj bD78 dEnd,eB b30 [vN],eO 26 tyAnswer v35 g36,Ent.gifc 2,Ent.gifc 3,Ent.tab 1 (Lib.pow10Tab.map fun z => Value.int .u64 z)] _:=hS.sel [0,1,2,3,4,6,7,8] rfl
   apply w_ret
   obtain rfl:=someE hm
   refine retM H84 hb_bD78 (hS.sel [2,0,1,3,4,5,6,7] rfl) ⟨nc_blk _ _,⟨nc_blk _ _,⟨nc_blk _ _,⟨nc_own nc_tyAnswer _ _ _,⟨nc_gifc _,⟨nc_gifc _,⟨nc_tab _ _,trivial⟩⟩⟩⟩⟩⟩⟩ fun _ _ H hS => ?_
   replace hS : SH M X w [eB b4 [vI 0],eB b1 [vL g36 v35],eB b30 [vN],eO 26 tyAnswer v35 g36,Ent.gifc 2,Ent.gifc 3,Ent.tab 1 (Lib.pow10Tab.map fun z => Value.int .u64 z)] _:=hS
   exact retR2 H rfl (oneRes_one rfl (hS.bk 1 rfl) Tryd.underlying41 rfl) (oneRes_one rfl (hS.bk 0 rfl) Tryd.underlying22 rfl) ⟨_,rfl,g36,rfl,(hS.sel [3] rfl)⟩
 case hr_1 =>
  intro yR bD78 aR wR hb_bD78 hC H hS
  have hm:=congrArg some hC
  replace H : FrG [mk bD78] 39 (fS [2,3,4,24] [vP b1,vP b4,vP b24,.func (.func 67) ⟨[]⟩ ⟨[vP b30]⟩]) aR:=H
  replace hS : SH M X w [Ent.obj bD78 dEnd,eB b1 [vO],eB b4 [vI yR]] wR:=hS
  obtain rfl:=someE hm
  replace hS : SH M X w [eO 26 tyAnswer ([] : List TAnswer) (.nil),Ent.obj bD78 dEnd,eB b1 [vO],eB b4 [vI yR]] _:=hS.addNil 26 tyAnswer
  refine retM H hb_bD78 (hS.sel [1,0,2,3] rfl) ⟨nc_own nc_tyAnswer _ _ _,⟨nc_blk _ _,⟨nc_blk _ _,trivial⟩⟩⟩ fun _ _ H hS => ?_
  replace hS : SH M X w [eO 26 tyAnswer ([] : List TAnswer) (.nil),eB b1 [vO],eB b4 [vI yR]] _:=hS
  exact retR2 H rfl (oneRes_one rfl (hS.bk 1 rfl) Tryd.underlying41 rfl) (oneRes_one rfl (hS.bk 2 rfl) Tryd.underlying22 rfl) ⟨_,rfl,Gh.nil,rfl,(hS.sel [0] rfl)⟩
theorem answer_ReadText_ok  (m : Nat) (s : Str) (r : (List TAnswer) × Int) (hm : answer_ReadText m s = some r) (M : Av) (w : World) (hS : S0 M [Ent.gifc 2,Ent.gifc 3,Ent.tab 1 (Lib.pow10Tab.map fun z => Value.int .u64 z)] w) : DoesX Tryd.prog 22 ⟨[vS s]⟩ w (fun v w' => ∃ (g901 : Gh),v = vW [vL g901 r.1,vI r.2] ∧ SH M (fpl [Ent.gifc 2,Ent.gifc 3,Ent.tab 1 (Lib.pow10Tab.map fun z => Value.int .u64 z)]) w [eO 26 tyAnswer r.1 g901] w'):=⟨Tryd.call22 _,answer_ReadText_w M m   s r hm w hS⟩

theorem r40_Split_w  (M : Av) (m : Nat) (s : Str) (r : (List Str) × Bool) (hm : r40_Split m s = some r) (w : World) (hS : S0 M [] w) : Calls Tryd.prog 23 ⟨[vS s]⟩ w (fun e w' => ∃ v,e = .returned v ∧ ∃ (g901 : Gh),v = vW [vL g901 r.1,vB r.2] ∧ SH M (fpl []) w [eO 9 tS r.1 g901] w'):=by
 rw [r40_Split] at hm
 have hS0 : SH M (fpl []) w [] w:=hS
 generalize hX : fpl [] = X at hS0 ⊢
 clear hS hX
 have hS:=hS0
 clear hS0
 refine calls_entryP Tryd.func23 rfl Tryd.ntmps23 rfl fun _ H => ?_
 refine s_reg [] [0] [(0,[],vS s)] [] H (by kernel_rfl) trivial fun _ _ H2 hb => ?_
 replace hS:=hS.below hb
 clear H hb
 refine s_reg [] [0,4] (fS [0,4] [vS s,vO]) [] H2 (by kernel_rfl) trivial fun _ _ H4 hb => ?_
 replace hS:=hS.below hb
 clear H2 hb
 refine s_reg [] [0,4,5] (fS [0,4,5] [vS s,vO,vI 0]) [] H4 (by kernel_rfl) trivial fun _ _ H6 hb => ?_
 replace hS:=hS.below hb
 clear H4 hb
 obtain ⟨z7,hz,hm⟩:=bindE hm
 refine w_cut (fun a' w' => ∃ (g44 : Gh),Fr 31 (fS [0,4,5] [vS s,vL g44 z7.1,vI z7.2]) a' ∧ SH M X w [eO 9 tS z7.1 g44] w') ?_ ?_
 ·replace hm:=hz
  refine s_reg [] [0,4,5,6] (fS [0,4,5,6] [vS s,vO,vI 0,vI 0]) [] H6 (by kernel_rfl) trivial fun _ _ H9 hb => ?_
  replace hS:=hS.below hb
  clear H6 hb
  apply w_block
  replace hS : SH M X w [eO 9 tS ([] : List Str) (.nil)] _:=hS.addNil 9 tS
  refine w_loop (fun kk a' w' => ∃ (v11 : List Str) (v13 : Int) (v14 : Int) (g12 : Gh),r40_Split_L1 m s kk v11 v13 v14 = some _ ∧ Fr 31 (fS [0,4,5,6] [vS s,vL g12 v11,vI v13,vI v14]) a' ∧ SH M X w [eO 9 tS v11 g12] w') ⟨_,([] : List Str),0,0,Gh.nil,hm,FrG.keep (ks:=[0,4,5,6]) H9 (by kernel_rfl),hS⟩ ?_
  clear hm H9 hS
  rintro kk _ _ ⟨v11,v13,v14,g12,hm,H,hS⟩
  cases kk with
  | zero => exact noneE hm
  | succ kk =>
   rw [r40_Split_L1] at hm
   apply w_seq
   refine s_reg [] [0,4,5,6,10] (fS [0,4,5,6,10] [vS s,vL g12 v11,vI v13,vI v14,vB (decide (v14 < (ln s)))]) [] H (by kernel_rfl) trivial fun _ _ H16 hb => ?_
   replace hS:=hS.below hb
   clear H hb
   refine w_if H16 rfl (fun hc => ?_) (fun hc => ?c42)
   case c42 =>
    replace hm:=bF hc hm
    apply w_exit rfl
    obtain rfl:=someE hm
    exact ⟨g12,FrG.keep (ks:=[0,4,5]) H16 (by kernel_rfl),hS⟩
   replace hm:=bT hc hm
   apply w_skip
   obtain ⟨z17,hz,hm⟩:=bindE hm
   refine w_cut (fun a' w' => ∃ (g38 : Gh),Fr 31 (fS [0,6,4,5] [vS s,vI v14,vL g38 z17.2,vI z17.1]) a' ∧ SH M X w [eO 9 tS z17.2 g38] w') ?_ ?_
   ·replace hm:=hz
    apply w_block
    obtain ⟨ho18,hm⟩:=chkE hm
    refine s_reg [] [0,4,5,6,16] (fS [0,4,5,6,16] [vS s,vL g12 v11,vI v13,vI v14,vB ((bat s v14) == 10)]) [fun _ => 0 ≤ v14 ∧ v14 < ln s] H16 (by kernel_rfl) ⟨ho18,trivial⟩ fun _ _ H20 hb => ?_
    replace hS:=hS.below hb
    clear H16 hb
    refine w_if H20 rfl (fun hc => ?_) (fun hc => ?c37)
    case c37 =>
     replace hm:=bF hc hm
     apply w_skip
     obtain rfl:=someE hm
     exact ⟨g12,FrG.keep (ks:=[0,6,4,5]) H20 (by kernel_rfl),hS⟩
    replace hm:=bT hc hm
    apply w_seq
    apply wl_start
    obtain ⟨ho21,hm⟩:=chkE hm
    refine wl_batch 0 5 [] [0,6,17,21] (fS [0,6,17,21] [vS s,vI v14,vL g12 v11,vS (sub s v13 v14)]) [fun _ => 0 ≤ v13 ∧ v13 ≤ v14 ∧ v14 ≤ ln s] H20 (by decide) (by kernel_rfl) ⟨ho21,trivial⟩ fun _ _ H23 hb => ?_
    replace hS:=hS.below hb
    clear H20 hb
    have hd:=hS.hand [] [0] rfl rfl
    refine m_stp [22,0,6,17] (fS [0,6,17] [vS s,vI v14,vL g12 v11]) H23 rfl rfl rfl rfl (o_lit (T:=tS) (E:=9) (zv:=vN) [vS (sub s v13 v14)] ([sub s v13 v14] : List Str) [gL []] _ H23 hd rfl (by kernel_rfl) (by kernel_rfl) (by kernel_rfl) (by kernel_rfl) (by kernel_rfl) (by kernel_rfl) (by kernel_rfl) rfl (InnL.cons trivial InnL.nil)) (fun _ => rfl) fun _ _ v H27 hq => ?_
    clear H23 hd
    obtain ⟨g24,rfl,hq⟩:=hq
    replace hS : SH M X w [eO 9 tS ([sub s v13 v14] : List Str) g24,eO 9 tS v11 g12] _:=hS.join [] [0] rfl rfl hq
    clear hq
    obtain ⟨ho28,hm⟩:=chkE hm
    obtain ⟨q29,hq29,hm⟩:=letE hm
    have hd:=hS.hand [1,0] [] rfl rfl
    refine m_stp [23,0,6] (fS [0,6] [vS s,vI v14]) H27 rfl rfl rfl rfl (o_app2 (T:=tS) (zv:=vN) (g1:=g12) (g2:=g24) (l1:=v11) (l2:=([sub s v13 v14] : List Str)) q29 hq29.symm H27 hd rfl rfl rfl rfl rfl rfl rfl (by kernel_rfl) (by kernel_rfl) rfl rfl ho28) (fun _ => rfl) fun _ _ v H31 hq => ?_
    clear H27 hd
    obtain ⟨g32,rfl,hq⟩:=hq
    replace hS : SH M X w [eO 9 tS q29 g32,eO 9 tS ([sub s v13 v14] : List Str) g24] _:=hS.join [1,0] [] rfl rfl hq
    clear hq
    refine wl_batch 7 8 [] [0,4,6] (fS [0,4,6] [vS s,vL g32 q29,vI v14]) [] H31 (by decide) (by kernel_rfl) trivial fun _ _ H34 hb => ?_
    replace hS:=hS.below hb
    clear H31 hb
    apply wl_end rfl
    replace hS : SH M X w [eO 9 tS q29 g32] _:=hS.sel [0] rfl
    refine w_reg [] [0,4,5,6] (fS [0,4,5,6] [vS s,vL g32 q29,vI (w64 (v14 + 1)),vI v14]) [] H34 (by kernel_rfl) trivial fun _ _ H36 hb => ?_
    replace hS:=hS.below hb
    clear H34 hb
    obtain rfl:=someE hm
    exact ⟨g32,FrG.keep (ks:=[0,6,4,5]) H36 (by kernel_rfl),hS⟩
   ·rintro _ _ ⟨g38,H,hS⟩
    refine w_reg [] [0,4,5,6] (fS [0,4,5,6] [vS s,vL g38 z17.2,vI z17.1,vI (w64 (v14 + 1))]) [] H (by kernel_rfl) trivial fun _ _ H40 hb => ?_
    replace hS:=hS.below hb
    clear H hb
    exact ⟨_,Nat.lt_succ_self _,z17.2,z17.1,w64 (v14 + 1),g38,hm,FrG.keep (ks:=[0,4,5,6]) H40 (by kernel_rfl),hS⟩
 ·rintro _ _ ⟨g44,H,hS⟩
  refine s_reg [] [2,3] (fS [2,3] [vL g44 z7.1,vB (z7.2 == (ln s))]) [] H (by kernel_rfl) trivial fun _ _ H47 hb => ?_
  replace hS:=hS.below hb
  clear H hb
  apply w_ret
  obtain rfl:=someE hm
  exact retR2 H47 rfl rfl rfl ⟨_,rfl,g44,rfl,(hS.sel [0] rfl)⟩
theorem r40_Split_ok  (m : Nat) (s : Str) (r : (List Str) × Bool) (hm : r40_Split m s = some r) (M : Av) (w : World) (hS : S0 M [] w) : DoesX Tryd.prog 23 ⟨[vS s]⟩ w (fun v w' => ∃ (g901 : Gh),v = vW [vL g901 r.1,vB r.2] ∧ SH M (fpl []) w [eO 9 tS r.1 g901] w'):=⟨Tryd.call23 _,r40_Split_w M m   s r hm w hS⟩

theorem r40_SameAll_w {g_a_ : Gh} {g_b_ : Gh} (M : Av) (m : Nat) (a_ : List TAnswer) (b_ : List TAnswer) (r : Bool) (hm : r40_SameAll m a_ b_ = some r) (w : World) (hS : S0 M [eI tyAnswer a_ g_a_,eI tyAnswer b_ g_b_] w) : Calls Tryd.prog 20 ⟨[vL g_a_ a_,vL g_b_ b_]⟩ w (fun e w' => ∃ v,e = .returned v ∧ v = vB r ∧ SH M (fpl [eI tyAnswer a_ g_a_,eI tyAnswer b_ g_b_]) w [] w'):=by
 rw [r40_SameAll] at hm
 have hS0 : SH M (fpl [eI tyAnswer a_ g_a_,eI tyAnswer b_ g_b_]) w [eI tyAnswer a_ g_a_,eI tyAnswer b_ g_b_] w:=hS
 generalize hX : fpl [eI tyAnswer a_ g_a_,eI tyAnswer b_ g_b_] = X at hS0 ⊢
 clear hS hX
 have hS:=hS0
 clear hS0
 refine calls_entryP Tryd.func20 rfl Tryd.ntmps20 rfl fun _ H => ?_
 refine s_reg [] [0,1] (fS [0,1] [vL g_a_ a_,vL g_b_ b_]) [] H (by kernel_rfl) trivial fun _ _ H2 hb => ?_
 replace hS:=hS.below hb
 clear H hb
 apply w_seq
 refine s_reg [] [0,1,10] (fS [0,1,10] [vL g_a_ a_,vL g_b_ b_,vB ((ln a_) != (ln b_))]) [] H2 (by kernel_rfl) trivial fun _ _ H4 hb => ?_
 replace hS:=hS.below hb
 clear H2 hb
 refine w_if H4 rfl (fun hc => ?c28) (fun hc => ?_)
 case c28 =>
  replace hm:=bT hc hm
  refine s_reg [] [4] [(4,[],vF)] [] H4 (by kernel_rfl) trivial fun _ _ H6 hb => ?_
  replace hS:=hS.below hb
  clear H4 hb
  replace hS : SH M X w [] _:=hS.sel [] rfl
  apply w_ret
  obtain rfl:=someE hm
  exact retR1 H6 rfl rfl ⟨_,rfl,rfl,(hS.sel [] rfl)⟩
 replace hm:=bF hc hm
 apply w_skip
 obtain ⟨z7,hz,hm_z7⟩:=bindE hm
 refine w_cut (fun a' w' => ∃ s_z7 : Unit,z7 = Sum.inr s_z7 ∧ Fr 27 [] a' ∧ SH M X w [eI tyAnswer a_ g_a_,eI tyAnswer b_ g_b_] w') ?_ ?_
 ·replace hm:=hz
  refine s_reg [] [0,1,5] (fS [0,1,5] [vL g_a_ a_,vL g_b_ b_,vI 0]) [] H4 (by kernel_rfl) trivial fun _ _ H9 hb => ?_
  replace hS:=hS.below hb
  clear H4 hb
  apply w_block
  refine w_loop (fun kk a' w' => ∃ (v10 : Int),r40_SameAll_L1 m a_ b_ kk v10 = some _ ∧ Fr 27 (fS [0,1,5] [vL g_a_ a_,vL g_b_ b_,vI v10]) a' ∧ SH M X w [eI tyAnswer a_ g_a_,eI tyAnswer b_ g_b_] w') ⟨_,0,hm,FrG.keep (ks:=[0,1,5]) H9 (by kernel_rfl),hS⟩ ?_
  clear hm H9 hS
  rintro kk _ _ ⟨v10,hm,H,hS⟩
  cases kk with
  | zero => exact noneE hm
  | succ kk =>
   rw [r40_SameAll_L1] at hm
   apply w_seq
   refine s_reg [] [0,1,5,14] (fS [0,1,5,14] [vL g_a_ a_,vL g_b_ b_,vI v10,vB (decide (v10 < (ln a_)))]) [] H (by kernel_rfl) trivial fun _ _ H12 hb => ?_
   replace hS:=hS.below hb
   clear H hb
   refine w_if H12 rfl (fun hc => ?_) (fun hc => ?c23)
   case c23 =>
    replace hm:=bF hc hm
    apply w_exit rfl
    obtain rfl:=someE hm
    exact ⟨_,rfl,FrG.keep (ks:=[]) H12 (by kernel_rfl),hS⟩
   replace hm:=bT hc hm
   apply w_skip
   apply w_seq
   apply w_block
   obtain ⟨ho13,hm⟩:=chkE hm
   obtain ⟨ho14,hm⟩:=chkE hm
   obtain ⟨y15,hy15,hm⟩:=bindE hm
   refine s_draw [(vG [vI ((gi a_ v10).Err),vI ((gi a_ v10).Num),.slice (g_a_.s (v10).toNat 0).a (((gi a_ v10).Texts).length) (g_a_.s (v10).toNat 0).c,.slice (g_a_.s (v10).toNat 1).a (((gi a_ v10).Numbers).length) (g_a_.s (v10).toNat 1).c]),(vG [vI ((gi b_ v10).Err),vI ((gi b_ v10).Num),.slice (g_b_.s (v10).toNat 0).a (((gi b_ v10).Texts).length) (g_b_.s (v10).toNat 0).c,.slice (g_b_.s (v10).toNat 1).a (((gi b_ v10).Numbers).length) (g_b_.s (v10).toNat 1).c]),(vB y15)] [0,1,5,26] (fS [0,1,5,26] [vL g_a_ a_,vL g_b_ b_,vI v10,vB (!y15)]) [fun _ => oka g_a_.a ∧ 0 ≤ v10 ∧ v10 < ln a_,fun wz => V.atN (ab g_a_.a) (ao g_a_.a + (v10).toNat * 4) [vI ((gi a_ v10).Err),vI ((gi a_ v10).Num),.slice (g_a_.s (v10).toNat 0).a (((gi a_ v10).Texts).length) (g_a_.s (v10).toNat 0).c,.slice (g_a_.s (v10).toNat 1).a (((gi a_ v10).Numbers).length) (g_a_.s (v10).toNat 1).c] 0 wz,fun _ => oka g_b_.a ∧ 0 ≤ v10 ∧ v10 < ln b_,fun wz => V.atN (ab g_b_.a) (ao g_b_.a + (v10).toNat * 4) [vI ((gi b_ v10).Err),vI ((gi b_ v10).Num),.slice (g_b_.s (v10).toNat 0).a (((gi b_ v10).Texts).length) (g_b_.s (v10).toNat 0).c,.slice (g_b_.s (v10).toNat 1).a (((gi b_ v10).Numbers).length) (g_b_.s (v10).toNat 1).c] 0 wz,rB 15 [vG [vI ((gi a_ v10).Err),vI ((gi a_ v10).Num),.slice (g_a_.s (v10).toNat 0).a (((gi a_ v10).Texts).length) (g_a_.s (v10).toNat 0).c,.slice (g_a_.s (v10).toNat 1).a (((gi a_ v10).Numbers).length) (g_a_.s (v10).toNat 1).c],vG [vI ((gi b_ v10).Err),vI ((gi b_ v10).Num),.slice (g_b_.s (v10).toNat 0).a (((gi b_ v10).Texts).length) (g_b_.s (v10).toNat 0).c,.slice (g_b_.s (v10).toNat 1).a (((gi b_ v10).Numbers).length) (g_b_.s (v10).toNat 1).c]] (vB y15)] H12 (by kernel_rfl) (by kernel_rfl) (by kernel_rfl) ⟨((hS.im 0 rfl).oki ho13),((hS.im 0 rfl).atA ho13 0 rfl),((hS.im 1 rfl).oki ho14),((hS.im 1 rfl).atA ho14 0 rfl),(r40_Same_ok (g_a__0:=(g_a_.s (v10).toNat 0)) (g_a__1:=(g_a_.s (v10).toNat 1)) (g_b__0:=(g_b_.s (v10).toNat 0)) (g_b__1:=(g_b_.s (v10).toNat 1)) m _ _ _ hy15 _ (s0im (s0im (s0im (s0im s0nil (tyAnswer_i1 ((hS.im 1 rfl).el ho14))) (tyAnswer_i0 ((hS.im 1 rfl).el ho14))) (tyAnswer_i1 ((hS.im 0 rfl).el ho13))) (tyAnswer_i0 ((hS.im 0 rfl).el ho13)))),trivial⟩ fun _ _ H17 hb => ?_
   replace hS:=hS.below hb
   clear H12 hb
   refine w_if H17 rfl (fun hc => ?_) (fun hc => ?c22)
   case c22 =>
    replace hm:=bF hc hm
    apply w_skip
    refine w_reg [] [0,1,5] (fS [0,1,5] [vL g_a_ a_,vL g_b_ b_,vI (w64 (v10 + 1))]) [] H17 (by kernel_rfl) trivial fun _ _ H21 hb => ?_
    replace hS:=hS.below hb
    clear H17 hb
    exact ⟨_,Nat.lt_succ_self _,w64 (v10 + 1),hm,FrG.keep (ks:=[0,1,5]) H21 (by kernel_rfl),hS⟩
   replace hm:=bT hc hm
   refine s_reg [] [4] [(4,[],vF)] [] H17 (by kernel_rfl) trivial fun _ _ H19 hb => ?_
   replace hS:=hS.below hb
   clear H17 hb
   apply w_ret
   obtain rfl:=someE hm
   have hm:=hm_z7
   obtain rfl:=someE hm
   exact retR1 H19 rfl rfl ⟨_,rfl,rfl,(hS.sel [] rfl)⟩
 ·rintro _ _ ⟨s_z7,hz,H,hS⟩
  subst hz
  replace hm:=sumR hm_z7
  replace hS : SH M X w [] _:=hS.sel [] rfl
  refine s_reg [] [4] [(4,[],vT)] [] H (by kernel_rfl) trivial fun _ _ H26 hb => ?_
  replace hS:=hS.below hb
  clear H hb
  apply w_ret
  obtain rfl:=someE hm
  exact retR1 H26 rfl rfl ⟨_,rfl,rfl,(hS.sel [] rfl)⟩
theorem r40_SameAll_ok {g_a_ : Gh} {g_b_ : Gh} (m : Nat) (a_ : List TAnswer) (b_ : List TAnswer) (r : Bool) (hm : r40_SameAll m a_ b_ = some r) (w : World) (hL : S0 F0 [eI tyAnswer a_ g_a_,eI tyAnswer b_ g_b_] w ∧ fpl [eI tyAnswer a_ g_a_,eI tyAnswer b_ g_b_] = []) : RetB Tryd.prog 20 ⟨[vL g_a_ a_,vL g_b_ b_]⟩ (vB r) w:=retB_of hL (Tryd.call20 _) (fun w' h => r40_SameAll_w F0 m   a_ b_ r hm w' h)

theorem law40_AnswerBack_w {g_l_ : Gh} (M : Av) (m : Nat) (l_ : List TAnswer) (s : Str) (r : Bool) (hm : law40_AnswerBack m l_ s = some r) (w : World) (hS : S0 M [eI tyAnswer l_ g_l_,Ent.tab 1 (Lib.pow10Tab.map fun z => Value.int .u64 z),Ent.gifc 2,Ent.gifc 3] w) : Calls Tryd.prog 6 ⟨[vL g_l_ l_,vS s]⟩ w (fun e w' => ∃ v,e = .returned v ∧ v = vB r ∧ SH M (fpl [eI tyAnswer l_ g_l_,Ent.tab 1 (Lib.pow10Tab.map fun z => Value.int .u64 z),Ent.gifc 2,Ent.gifc 3]) w [] w'):=by
 rw [law40_AnswerBack] at hm
 have hS0 : SH M (fpl [eI tyAnswer l_ g_l_,Ent.tab 1 (Lib.pow10Tab.map fun z => Value.int .u64 z),Ent.gifc 2,Ent.gifc 3]) w [eI tyAnswer l_ g_l_,Ent.tab 1 (Lib.pow10Tab.map fun z => Value.int .u64 z),Ent.gifc 2,Ent.gifc 3] w:=hS
 generalize hX : fpl [eI tyAnswer l_ g_l_,Ent.tab 1 (Lib.pow10Tab.map fun z => Value.int .u64 z),Ent.gifc 2,Ent.gifc 3] = X at hS0 ⊢
 clear hS hX
 have hS:=hS0
 clear hS0
 refine calls_entryP Tryd.func6 rfl Tryd.ntmps6 rfl fun _ H => ?_
 refine s_reg [] [0,1] (fS [0,1] [vL g_l_ l_,vS s]) [] H (by kernel_rfl) trivial fun _ _ H2 hb => ?_
 replace hS:=hS.below hb
 clear H hb
 obtain ⟨y3,hy3,hm⟩:=bindE hm
 refine s_reg [(vB y3)] [0,1,5] (fS [0,1,5] [vL g_l_ l_,vS s,vB y3]) [rB 16 [] (vB y3)] H2 (by kernel_rfl) ⟨(law40_alive_ok m _ hy3 _ (s0tab (s0gf (s0gf s0nil (hS.at 3 rfl)) (hS.at 2 rfl)) (hS.at 1 rfl))),trivial⟩ fun _ _ H5 hb => ?_
 replace hS:=hS.below hb
 clear H2 hb
 apply w_seq
 obtain ⟨y6,hy6,hm⟩:=bindE hm
 obtain ⟨x7,hx7,hm⟩:=letE hm
 refine s_reg [(vB y6)] [0,1,5,30] (fS [0,1,5,30] [vL g_l_ l_,vS s,vB y3,vB x7]) [rB 17 [vL g_l_ l_] (vB y6)] H5 (by subst hx7; kernel_rfl) ⟨(r40_Great_ok (g_l_:=g_l_) m _ _ hy6 _ (s0im s0nil (hS.im 0 rfl))),trivial⟩ fun _ _ H9 hb => ?_
 replace hS:=hS.below hb
 clear H5 hb
 refine w_if H9 rfl (fun hc => ?c91) (fun hc => ?_)
 case c91 =>
  replace hm:=bT hc hm
  refine s_reg [] [4] [(4,[],vB y3)] [] H9 (by kernel_rfl) trivial fun _ _ H11 hb => ?_
  replace hS:=hS.below hb
  clear H9 hb
  replace hS : SH M X w [Ent.tab 1 (Lib.pow10Tab.map fun z => Value.int .u64 z),Ent.gifc 2,Ent.gifc 3] _:=hS.sel [1,2,3] rfl
  apply w_ret
  obtain rfl:=someE hm
  exact retR1 H11 rfl rfl ⟨_,rfl,rfl,(hS.sel [] rfl)⟩
 replace hm:=bF hc hm
 apply w_skip
 obtain ⟨y12,hy12,hm⟩:=bindE hm
 refine s_reg [(vW [vS y12.1,vI y12.2])] [0,1,5,6,7] (fS [0,1,5,6,7] [vL g_l_ l_,vS s,vB y3,vS y12.1,vI y12.2]) [rB 21 [vL g_l_ l_] (vW [vS y12.1,vI y12.2])] H9 (by kernel_rfl) ⟨(answer_Text_ok (g_l_:=g_l_) m _ _ hy12 _ (s0im (s0tab s0nil (hS.at 1 rfl)) (hS.im 0 rfl))),trivial⟩ fun _ _ H14 hb => ?_
 replace hS:=hS.below hb
 clear H9 hb
 apply w_seq
 obtain ⟨y15,hy15,hm⟩:=bindE hm
 refine s_reg [(vI y15)] [0,1,5,6,7,42] (fS [0,1,5,6,7,42] [vL g_l_ l_,vS s,vB y3,vS y12.1,vI y12.2,vB (!((y12.2 == 0) == (y15 == 0)))]) [rB 18 [vL g_l_ l_] (vI y15)] H14 (by kernel_rfl) ⟨(r40_Log_ok (g_l_:=g_l_) m _ _ hy15 _ (s0im s0nil (hS.im 0 rfl))),trivial⟩ fun _ _ H17 hb => ?_
 replace hS:=hS.below hb
 clear H14 hb
 refine w_if H17 rfl (fun hc => ?c90) (fun hc => ?_)
 case c90 =>
  replace hm:=bT hc hm
  refine s_reg [] [4] [(4,[],vF)] [] H17 (by kernel_rfl) trivial fun _ _ H19 hb => ?_
  replace hS:=hS.below hb
  clear H17 hb
  replace hS : SH M X w [Ent.tab 1 (Lib.pow10Tab.map fun z => Value.int .u64 z),Ent.gifc 2,Ent.gifc 3] _:=hS.sel [1,2,3] rfl
  apply w_ret
  obtain rfl:=someE hm
  exact retR1 H19 rfl rfl ⟨_,rfl,rfl,(hS.sel [] rfl)⟩
 replace hm:=bF hc hm
 apply w_skip
 obtain ⟨z20,hz,hm_z20⟩:=bindE hm
 refine w_cut (fun a' w' => ∃ s_z20 : Unit,z20 = Sum.inr s_z20 ∧ Fr 125 (fS [1,5] [vS s,vB y3]) a' ∧ SH M X w [eI tyAnswer l_ g_l_,Ent.tab 1 (Lib.pow10Tab.map fun z => Value.int .u64 z),Ent.gifc 2,Ent.gifc 3] w') ?_ ?_
 ·replace hm:=hz
  refine s_reg [] [0,1,5,6,44] (fS [0,1,5,6,44] [vL g_l_ l_,vS s,vB y3,vS y12.1,vB (y12.2 == 0)]) [] H17 (by kernel_rfl) trivial fun _ _ H22 hb => ?_
  replace hS:=hS.below hb
  clear H17 hb
  refine w_if H22 rfl (fun hc => ?_) (fun hc => ?c68)
  case c68 =>
   replace hm:=bF hc hm
   apply w_skip
   obtain rfl:=someE hm
   exact ⟨_,rfl,FrG.keep (ks:=[1,5]) H22 (by kernel_rfl),hS⟩
  replace hm:=bT hc hm
  apply w_seq
  apply wl_start
  refine wl_batch 0 1 [] [0,1,5,6,46] (fS [0,1,5,6,46] [vL g_l_ l_,vS s,vB y3,vS y12.1,vS y12.1]) [] H22 (by decide) (by kernel_rfl) trivial fun _ _ H24 hb => ?_
  replace hS:=hS.below hb
  clear H22 hb
  obtain ⟨y25,hy25,hm⟩:=bindE hm
  have hd:=hS.hand [2,3,1] [0,1,2,3] rfl rfl
  refine m_stp [47,0,1,5,6] (fS [0,1,5,6] [vL g_l_ l_,vS s,vB y3,vS y12.1]) H24 rfl rfl rfl rfl (o_callx H24 rfl rfl (answer_ReadText_ok m _ _ hy25 _ _ hd)) (fun _ => rfl) fun _ _ v H29 hq => ?_
  clear H24 hd
  obtain ⟨g26,rfl,hq⟩:=hq
  replace hS : SH M X w [eO 26 tyAnswer y25.1 g26,eI tyAnswer l_ g_l_,Ent.tab 1 (Lib.pow10Tab.map fun z => Value.int .u64 z),Ent.gifc 2,Ent.gifc 3] _:=hS.join [2,3,1] [0,1,2,3] rfl rfl hq
  clear hq
  refine wl_batch 2 7 [] [0,1,5,6,8,9] (fS [0,1,5,6,8,9] [vL g_l_ l_,vS s,vB y3,vS y12.1,vL g26 y25.1,vI y25.2]) [] H29 (by decide) (by kernel_rfl) trivial fun _ _ H31 hb => ?_
  replace hS:=hS.below hb
  clear H29 hb
  apply wl_end rfl
  apply w_seq
  apply wl_start
  refine wl_batch 0 1 [] [0,1,5,8,9,51] (fS [0,1,5,8,9,51] [vL g_l_ l_,vS s,vB y3,vL g26 y25.1,vI y25.2,vS y12.1]) [] H31 (by decide) (by kernel_rfl) trivial fun _ _ H33 hb => ?_
  replace hS:=hS.below hb
  clear H31 hb
  obtain ⟨y34,hy34,hm⟩:=bindE hm
  have hd:=hS.hand [] [0,1,2,3,4] rfl rfl
  refine m_stp [52,0,1,5,8,9] (fS [0,1,5,8,9] [vL g_l_ l_,vS s,vB y3,vL g26 y25.1,vI y25.2]) H33 rfl rfl rfl rfl (o_callx H33 rfl rfl (r40_Split_ok m _ _ hy34 _ _ hd)) (fun _ => rfl) fun _ _ v H38 hq => ?_
  clear H33 hd
  obtain ⟨g35,rfl,hq⟩:=hq
  replace hS : SH M X w [eO 9 tS y34.1 g35,eO 26 tyAnswer y25.1 g26,eI tyAnswer l_ g_l_,Ent.tab 1 (Lib.pow10Tab.map fun z => Value.int .u64 z),Ent.gifc 2,Ent.gifc 3] _:=hS.join [] [0,1,2,3,4] rfl rfl hq
  clear hq
  refine wl_batch 2 7 [] [0,1,5,8,9,10,11] (fS [0,1,5,8,9,10,11] [vL g_l_ l_,vS s,vB y3,vL g26 y25.1,vI y25.2,vL g35 y34.1,vB y34.2]) [] H38 (by decide) (by kernel_rfl) trivial fun _ _ H40 hb => ?_
  replace hS:=hS.below hb
  clear H38 hb
  apply wl_end rfl
  apply w_seq
  obtain ⟨y41,hy41,hm⟩:=bindE hm
  obtain ⟨x42,hx42,hm⟩:=letE hm
  refine s_reg [(vB y41)] [0,1,5,10,73] (fS [0,1,5,10,73] [vL g_l_ l_,vS s,vB y3,vL g35 y34.1,vB (cond x42 true ((ln y34.1) != (ln l_)))]) [fun wz => ((y25.2 != 0) = false ∧ True → RetB Tryd.prog 20 ⟨[vL g26 y25.1,vL g_l_ l_]⟩ (vB y41) wz)] H40 (by subst hx42; kernel_rfl) ⟨fun hg => r40_SameAll_ok (g_a_:=g26) (g_b_:=g_l_) m _ _ _ (bF (hg.1) hy41) _ (s0im (s0im s0nil (hS.im 2 rfl)) (hS.osl 1 rfl)),trivial⟩ fun _ _ H44 hb => ?_
  replace hS:=hS.below hb
  clear H40 hb
  replace hS : SH M X w [eO 9 tS y34.1 g35,eI tyAnswer l_ g_l_,Ent.tab 1 (Lib.pow10Tab.map fun z => Value.int .u64 z),Ent.gifc 2,Ent.gifc 3] _:=hS.sel [0,2,3,4,5] rfl
  refine w_if H44 rfl (fun hc => ?c67) (fun hc => ?_)
  case c67 =>
   replace hm:=bT hc hm
   refine s_reg [] [4] [(4,[],vF)] [] H44 (by kernel_rfl) trivial fun _ _ H46 hb => ?_
   replace hS:=hS.below hb
   clear H44 hb
   replace hS : SH M X w [eI tyAnswer l_ g_l_,Ent.tab 1 (Lib.pow10Tab.map fun z => Value.int .u64 z),Ent.gifc 2,Ent.gifc 3] _:=hS.sel [1,2,3,4] rfl
   apply w_ret
   obtain rfl:=someE hm
   have hm:=hm_z20
   obtain rfl:=someE hm
   exact retR1 H46 rfl rfl ⟨_,rfl,rfl,(hS.sel [] rfl)⟩
  replace hm:=bF hc hm
  apply w_skip
  refine s_reg [] [0,1,5,10,12] (fS [0,1,5,10,12] [vL g_l_ l_,vS s,vB y3,vL g35 y34.1,vI 0]) [] H44 (by kernel_rfl) trivial fun _ _ H48 hb => ?_
  replace hS:=hS.below hb
  clear H44 hb
  apply w_block
  refine w_loop (fun kk a' w' => ∃ (v49 : Int),law40_AnswerBack_L1 m l_ y34 kk v49 = some _ ∧ Fr 125 (fS [0,1,5,10,12] [vL g_l_ l_,vS s,vB y3,vL g35 y34.1,vI v49]) a' ∧ SH M X w [eO 9 tS y34.1 g35,eI tyAnswer l_ g_l_,Ent.tab 1 (Lib.pow10Tab.map fun z => Value.int .u64 z),Ent.gifc 2,Ent.gifc 3] w') ⟨_,0,hm,FrG.keep (ks:=[0,1,5,10,12]) H48 (by kernel_rfl),hS⟩ ?_
  clear hm H48 hS
  rintro kk _ _ ⟨v49,hm,H,hS⟩
  cases kk with
  | zero => exact noneE hm
  | succ kk =>
   rw [law40_AnswerBack_L1] at hm
   apply w_seq
   refine s_reg [] [0,1,5,10,12,77] (fS [0,1,5,10,12,77] [vL g_l_ l_,vS s,vB y3,vL g35 y34.1,vI v49,vB (decide (v49 < (ln l_)))]) [] H (by kernel_rfl) trivial fun _ _ H51 hb => ?_
   replace hS:=hS.below hb
   clear H hb
   refine w_if H51 rfl (fun hc => ?_) (fun hc => ?c65)
   case c65 =>
    replace hm:=bF hc hm
    apply w_exit rfl
    obtain rfl:=someE hm
    replace hS : SH M X w [eI tyAnswer l_ g_l_,Ent.tab 1 (Lib.pow10Tab.map fun z => Value.int .u64 z),Ent.gifc 2,Ent.gifc 3] _:=hS.sel [1,2,3,4] rfl
    exact ⟨_,rfl,FrG.keep (ks:=[1,5]) H51 (by kernel_rfl),hS⟩
   replace hm:=bT hc hm
   apply w_skip
   apply w_seq
   apply w_block
   obtain ⟨ho52,hm⟩:=chkE hm
   obtain ⟨y53,hy53,hm⟩:=bindE hm
   refine s_reg [(vG [vI ((gi l_ v49).Err),vI ((gi l_ v49).Num),.slice (g_l_.s (v49).toNat 0).a (((gi l_ v49).Texts).length) (g_l_.s (v49).toNat 0).c,.slice (g_l_.s (v49).toNat 1).a (((gi l_ v49).Numbers).length) (g_l_.s (v49).toNat 1).c]),(vW [vS y53.1,vI y53.2])] [0,1,5,10,12,13,14] (fS [0,1,5,10,12,13,14] [vL g_l_ l_,vS s,vB y3,vL g35 y34.1,vI v49,vS y53.1,vI y53.2]) [fun _ => oka g_l_.a ∧ 0 ≤ v49 ∧ v49 < ln l_,fun wz => V.atN (ab g_l_.a) (ao g_l_.a + (v49).toNat * 4) [vI ((gi l_ v49).Err),vI ((gi l_ v49).Num),.slice (g_l_.s (v49).toNat 0).a (((gi l_ v49).Texts).length) (g_l_.s (v49).toNat 0).c,.slice (g_l_.s (v49).toNat 1).a (((gi l_ v49).Numbers).length) (g_l_.s (v49).toNat 1).c] 0 wz,rB 9 [vG [vI ((gi l_ v49).Err),vI ((gi l_ v49).Num),.slice (g_l_.s (v49).toNat 0).a (((gi l_ v49).Texts).length) (g_l_.s (v49).toNat 0).c,.slice (g_l_.s (v49).toNat 1).a (((gi l_ v49).Numbers).length) (g_l_.s (v49).toNat 1).c]] (vW [vS y53.1,vI y53.2])] H51 (by kernel_rfl) ⟨((hS.im 1 rfl).oki ho52),((hS.im 1 rfl).atA ho52 0 rfl),(answer_Line_ok (g_a__0:=(g_l_.s (v49).toNat 0)) (g_a__1:=(g_l_.s (v49).toNat 1)) m _ _ hy53 _ (s0im (s0im (s0tab s0nil (hS.at 2 rfl)) (tyAnswer_i1 ((hS.im 1 rfl).el ho52))) (tyAnswer_i0 ((hS.im 1 rfl).el ho52)))),trivial⟩ fun _ _ H55 hb => ?_
   replace hS:=hS.below hb
   clear H51 hb
   obtain ⟨ho56,hm⟩:=chkE hm
   obtain ⟨x57,hx57,hm⟩:=letE hm
   refine s_reg [(vS (gi y34.1 v49))] [0,1,5,10,12,97] (fS [0,1,5,10,12,97] [vL g_l_ l_,vS s,vB y3,vL g35 y34.1,vI v49,vB x57]) [fun _ => ((y53.2 != 0) = false ∧ True → oka g35.a ∧ 0 ≤ v49 ∧ v49 < ln y34.1),fun wz => ((y53.2 != 0) = false ∧ True → V.at1 ⟨ab g35.a,ao g35.a + (v49).toNat * 1,none⟩ (vS (gi y34.1 v49)) wz)] H55 (by subst hx57; kernel_rfl) ⟨fun hg => (hS.osl 0 rfl).oki (ho56 hg.1),fun hg => (hS.osl 0 rfl).at1 (ho56 hg.1) 0 rfl,trivial⟩ fun _ _ H59 hb => ?_
   replace hS:=hS.below hb
   clear H55 hb
   refine w_if H59 rfl (fun hc => ?_) (fun hc => ?c64)
   case c64 =>
    replace hm:=bF hc hm
    apply w_skip
    refine w_reg [] [0,1,5,10,12] (fS [0,1,5,10,12] [vL g_l_ l_,vS s,vB y3,vL g35 y34.1,vI (w64 (v49 + 1))]) [] H59 (by kernel_rfl) trivial fun _ _ H63 hb => ?_
    replace hS:=hS.below hb
    clear H59 hb
    exact ⟨_,Nat.lt_succ_self _,w64 (v49 + 1),hm,FrG.keep (ks:=[0,1,5,10,12]) H63 (by kernel_rfl),hS⟩
   replace hm:=bT hc hm
   refine s_reg [] [4] [(4,[],vF)] [] H59 (by kernel_rfl) trivial fun _ _ H61 hb => ?_
   replace hS:=hS.below hb
   clear H59 hb
   apply w_ret
   obtain rfl:=someE hm
   have hm:=hm_z20
   obtain rfl:=someE hm
   exact retR1 H61 rfl rfl ⟨_,rfl,rfl,(hS.sel [] rfl)⟩
 ·rintro _ _ ⟨s_z20,hz,H,hS⟩
  subst hz
  replace hm:=sumR hm_z20
  replace hS : SH M X w [Ent.tab 1 (Lib.pow10Tab.map fun z => Value.int .u64 z),Ent.gifc 2,Ent.gifc 3] _:=hS.sel [1,2,3] rfl
  apply w_seq
  apply wl_start
  refine wl_batch 0 1 [] [1,5,99] (fS [1,5,99] [vS s,vB y3,vS s]) [] H (by decide) (by kernel_rfl) trivial fun _ _ H70 hb => ?_
  replace hS:=hS.below hb
  clear H hb
  obtain ⟨y71,hy71,hm⟩:=bindE hm
  have hd:=hS.hand [1,2,0] [0,1,2] rfl rfl
  refine m_stp [100,1,5] (fS [1,5] [vS s,vB y3]) H70 rfl rfl rfl rfl (o_callx H70 rfl rfl (answer_ReadText_ok m _ _ hy71 _ _ hd)) (fun _ => rfl) fun _ _ v H75 hq => ?_
  clear H70 hd
  obtain ⟨g72,rfl,hq⟩:=hq
  replace hS : SH M X w [eO 26 tyAnswer y71.1 g72,Ent.tab 1 (Lib.pow10Tab.map fun z => Value.int .u64 z),Ent.gifc 2,Ent.gifc 3] _:=hS.join [1,2,0] [0,1,2] rfl rfl hq
  clear hq
  refine wl_batch 2 7 [] [1,5,15,16] (fS [1,5,15,16] [vS s,vB y3,vL g72 y71.1,vI y71.2]) [] H75 (by decide) (by kernel_rfl) trivial fun _ _ H77 hb => ?_
  replace hS:=hS.below hb
  clear H75 hb
  apply wl_end rfl
  apply w_seq
  refine s_reg [] [1,5,15,16,104] (fS [1,5,15,16,104] [vS s,vB y3,vL g72 y71.1,vI y71.2,vB (y71.2 != 0)]) [] H77 (by kernel_rfl) trivial fun _ _ H79 hb => ?_
  replace hS:=hS.below hb
  clear H77 hb
  refine w_if H79 rfl (fun hc => ?c88) (fun hc => ?_)
  case c88 =>
   replace hm:=bT hc hm
   refine s_reg [] [4] [(4,[],vB (cond y3 (y71.2 == 12) false))] [] H79 (by kernel_rfl) trivial fun _ _ H81 hb => ?_
   replace hS:=hS.below hb
   clear H79 hb
   replace hS : SH M X w [Ent.tab 1 (Lib.pow10Tab.map fun z => Value.int .u64 z),Ent.gifc 2,Ent.gifc 3] _:=hS.sel [1,2,3] rfl
   apply w_ret
   obtain rfl:=someE hm
   exact retR1 H81 rfl rfl ⟨_,rfl,rfl,(hS.sel [] rfl)⟩
  replace hm:=bF hc hm
  apply w_skip
  obtain ⟨y82,hy82,hm⟩:=bindE hm
  refine s_reg [(vW [vS y82.1,vI y82.2])] [1,5,17,18] (fS [1,5,17,18] [vS s,vB y3,vS y82.1,vI y82.2]) [rB 21 [vL g72 y71.1] (vW [vS y82.1,vI y82.2])] H79 (by kernel_rfl) ⟨(answer_Text_ok (g_l_:=g72) m _ _ hy82 _ (s0im (s0tab s0nil (hS.at 1 rfl)) (hS.osl 0 rfl))),trivial⟩ fun _ _ H84 hb => ?_
  replace hS:=hS.below hb
  clear H79 hb
  replace hS : SH M X w [Ent.tab 1 (Lib.pow10Tab.map fun z => Value.int .u64 z),Ent.gifc 2,Ent.gifc 3] _:=hS.sel [1,2,3] rfl
  obtain ⟨x85,hx85,hm⟩:=letE hm
  refine s_reg [] [4] [(4,[],vB x85)] [] H84 (by subst hx85; kernel_rfl) trivial fun _ _ H87 hb => ?_
  replace hS:=hS.below hb
  clear H84 hb
  apply w_ret
  obtain rfl:=someE hm
  exact retR1 H87 rfl rfl ⟨_,rfl,rfl,(hS.sel [] rfl)⟩
theorem law40_AnswerBack_ok {g_l_ : Gh} (m : Nat) (l_ : List TAnswer) (s : Str) (r : Bool) (hm : law40_AnswerBack m l_ s = some r) (w : World) (hL : S0 F0 [eI tyAnswer l_ g_l_,Ent.tab 1 (Lib.pow10Tab.map fun z => Value.int .u64 z),Ent.gifc 2,Ent.gifc 3] w ∧ fpl [eI tyAnswer l_ g_l_,Ent.tab 1 (Lib.pow10Tab.map fun z => Value.int .u64 z),Ent.gifc 2,Ent.gifc 3] = []) : RetB Tryd.prog 6 ⟨[vL g_l_ l_,vS s]⟩ (vB r) w:=retB_of hL (Tryd.call6 _) (fun w' h => law40_AnswerBack_w F0 m   l_ s r hm w' h)

end Go.Proofs.YtipafpkdkhnjmaaDoor
