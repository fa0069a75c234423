/-
  What the Go functions compute, as Lean functions, and that a call returns just that. Printed by a program.
-/
import Derived.Test.YtehlikdeobajcaaGreatDoorRows
import Derived.Test.YtehlikdeobajcaaGreatDoorRF
import Derived.Test.YtehlikdeobajcaaGreatDoorAF
import Derived.Test.YtehlikdeobajcaaGreatDoorM
import Derived.Test.YtehlikdeobajcaaGreatDoorW31la
set_option linter.unusedVariables false
set_option maxRecDepth 20000
set_option maxHeartbeats 4000000
namespace Go.Proofs.YtehlikdeobajcaaGreatDoor
open Go.V Go.RowKit

theorem props_Table_w  (M : Av) (m : Nat)  (r : List TProp) (hm : props_Table m = some r) (w : World) (hS : S0 M [gE0] w) : Calls Tryz.prog 35 ⟨[]⟩ w (fun e w' => ∃ v,e = .returned v ∧ ∃ (g901 : Gh),v = vL g901 r ∧ SH M (fpl [gE0]) w [eO 77 tyProp r g901] w'):=by
 rw [props_Table] at hm
 have hS0 : SH M (fpl [gE0]) w [gE0] w:=hS
 generalize hX : fpl [gE0] = X at hS0 ⊢
 clear hS hX
 have hS:=hS0
 clear hS0
 refine calls_entryP Tryz.func35 rfl Tryz.ntmps35 rfl fun _ H => ?_
 refine s_reg [] [] [] [] H (by kernel_rfl) trivial fun _ _ H2 hb => ?_
 replace hS:=hS.below hb
 apply w_seq
 apply wl_start
 obtain ⟨y3,hy3,hm⟩:=letE hm
 refine wl_batch 0 2 [(vG (cV y3))] [6,7] (fS [6,7] [vG (cV y3),vG [vU 2,vN,vI 0,vU 0,vU 0,vU 0,vU 0]]) [rB 57 [vS [97,117,116,111]] (vG (cV y3))] H2 (by decide) (by subst hy3; kernel_rfl) ⟨((by rw [hy3]; exact (props_word_ok _).b)),trivial⟩ fun _ _ H5 hb => ?_
 replace hS:=hS.below hb
 have hd:=hS.hand [] [0] rfl rfl
 refine m_stp [1,6,7] (fS [6,7] [vG (cV y3),vG [vU 2,vN,vI 0,vU 0,vU 0,vU 0,vU 0]]) H5 rfl rfl rfl rfl (o_alloc [vU 0,vN,vI 0,vU 0,vU 0,vU 0,vU 0] (z:=vG [vU 0,vN,vI 0,vU 0,vU 0,vU 0,vU 0]) hd (by kernel_rfl) rfl) (fun _ => rfl) fun _ _ v H8 hq => ?_
 obtain ⟨b6,rfl,hq⟩:=hq
 replace hS : SH M X w [eB b6 [vU 0,vN,vI 0,vU 0,vU 0,vU 0,vU 0],gE0] _:=hS.join [] [0] rfl rfl hq
 have hd:=hS.hand [] [0,1] rfl rfl
 refine m_stp [2,1,6,7] (fS [1,6,7] [vP b6,vG (cV y3),vG [vU 2,vN,vI 0,vU 0,vU 0,vU 0,vU 0]]) H8 rfl rfl rfl rfl (o_alloc [vU 0,vN,vI 0,vU 0,vU 0,vU 0,vU 0] (z:=vG [vU 0,vN,vI 0,vU 0,vU 0,vU 0,vU 0]) hd (by kernel_rfl) rfl) (fun _ => rfl) fun _ _ v H11 hq => ?_
 obtain ⟨b9,rfl,hq⟩:=hq
 replace hS : SH M X w [eB b9 [vU 0,vN,vI 0,vU 0,vU 0,vU 0,vU 0],eB b6 [vU 0,vN,vI 0,vU 0,vU 0,vU 0,vU 0],gE0] _:=hS.join [] [0,1] rfl rfl hq
 have hd:=hS.hand [1] [0,2] rfl rfl
 refine m_stp0 [1,2,7] (fS [1,2,7] [vP b6,vP b9,vG [vU 2,vN,vI 0,vU 0,vU 0,vU 0,vU 0]]) H11 rfl rfl rfl (o_store (cV y3) H11 hd rfl rfl (by kernel_rfl) rfl rfl rfl) rfl fun _ _ H13 hq => ?_
 obtain ⟨_,hq⟩:=hq
 replace hS : SH M X w [eB b6 (cV y3),eB b9 [vU 0,vN,vI 0,vU 0,vU 0,vU 0,vU 0],gE0] _:=hS.join [1] [0,2] rfl rfl hq
 have hd:=hS.hand [1] [0,2] rfl rfl
 refine m_stp0 [1,2] (fS [1,2] [vP b6,vP b9]) H13 rfl rfl rfl (o_store [vU 2,vN,vI 0,vU 0,vU 0,vU 0,vU 0] H13 hd rfl rfl (by kernel_rfl) rfl rfl rfl) rfl fun _ _ H15 hq => ?_
 obtain ⟨_,hq⟩:=hq
 replace hS : SH M X w [eB b9 [vU 2,vN,vI 0,vU 0,vU 0,vU 0,vU 0],eB b6 (cV y3),gE0] _:=hS.join [1] [0,2] rfl rfl hq
 apply wl_end rfl
 obtain ⟨y17,hy17,hm⟩:=letE hm
 obtain ⟨y22,hy22,hm⟩:=letE hm
 obtain ⟨y27,hy27,hm⟩:=letE hm
 obtain ⟨y32,hy32,hm⟩:=letE hm
 obtain ⟨y37,hy37,hm⟩:=bindE hm
 obtain ⟨y42,hy42,hm⟩:=bindE hm
 obtain ⟨y48,hy48,hm⟩:=bindE hm
 obtain ⟨y54,hy54,hm⟩:=bindE hm
 refine s_drawS (base:=(fS [1,2] [vP b6,vP b9])) (L:=[eB b9 [vU 2,vN,vI 0,vU 0,vU 0,vU 0,vU 0],eB b6 (cV y3),gE0]) 17 3 (fun yg16 => [vG [vU 0,vU 0,vU 0,vU 255],vG [vU 7,vN,vI 0,vU 0,vU 0,vU 0,vU 255],vG [vS y17.Name,vB y17.Inherited,vU y17.Initial.Kind,vS y17.Initial.Word,vI y17.Initial.Num,vU y17.Initial.Color.Red,vU y17.Initial.Color.Green,vU y17.Initial.Color.Blue,vU y17.Initial.Color.Alpha,.slice (yg16 2 0).a y17.Words.length (yg16 2 0).c,.slice (yg16 2 1).a y17.Kinds.length (yg16 2 1).c,vB y17.Least],vG [vU 7,vN,vI 0,vU 0,vU 0,vU 0,vU 0],vG [vS y22.Name,vB y22.Inherited,vU y22.Initial.Kind,vS y22.Initial.Word,vI y22.Initial.Num,vU y22.Initial.Color.Red,vU y22.Initial.Color.Green,vU y22.Initial.Color.Blue,vU y22.Initial.Color.Alpha,.slice (yg16 4 0).a y22.Words.length (yg16 4 0).c,.slice (yg16 4 1).a y22.Kinds.length (yg16 4 1).c,vB y22.Least],vG [vU 8,vN,vI 0,vU 0,vU 0,vU 0,vU 0],vG [vS y27.Name,vB y27.Inherited,vU y27.Initial.Kind,vS y27.Initial.Word,vI y27.Initial.Num,vU y27.Initial.Color.Red,vU y27.Initial.Color.Green,vU y27.Initial.Color.Blue,vU y27.Initial.Color.Alpha,.slice (yg16 6 0).a y27.Words.length (yg16 6 0).c,.slice (yg16 6 1).a y27.Kinds.length (yg16 6 1).c,vB y27.Least],vG [vU 8,vN,vI 0,vU 0,vU 0,vU 0,vU 0],vG [vS y32.Name,vB y32.Inherited,vU y32.Initial.Kind,vS y32.Initial.Word,vI y32.Initial.Num,vU y32.Initial.Color.Red,vU y32.Initial.Color.Green,vU y32.Initial.Color.Blue,vU y32.Initial.Color.Alpha,.slice (yg16 8 0).a y32.Words.length (yg16 8 0).c,.slice (yg16 8 1).a y32.Kinds.length (yg16 8 1).c,vB y32.Least],vG [vS y37.Name,vB y37.Inherited,vU y37.Initial.Kind,vS y37.Initial.Word,vI y37.Initial.Num,vU y37.Initial.Color.Red,vU y37.Initial.Color.Green,vU y37.Initial.Color.Blue,vU y37.Initial.Color.Alpha,.slice (yg16 9 0).a y37.Words.length (yg16 9 0).c,.slice (yg16 9 1).a y37.Kinds.length (yg16 9 1).c,vB y37.Least],vG [vS y42.Name,vB y42.Inherited,vU y42.Initial.Kind,vS y42.Initial.Word,vI y42.Initial.Num,vU y42.Initial.Color.Red,vU y42.Initial.Color.Green,vU y42.Initial.Color.Blue,vU y42.Initial.Color.Alpha,.slice (yg16 10 0).a y42.Words.length (yg16 10 0).c,.slice (yg16 10 1).a y42.Kinds.length (yg16 10 1).c,vB y42.Least],vG (cV y3),vG [vS y48.Name,vB y48.Inherited,vU y48.Initial.Kind,vS y48.Initial.Word,vI y48.Initial.Num,vU y48.Initial.Color.Red,vU y48.Initial.Color.Green,vU y48.Initial.Color.Blue,vU y48.Initial.Color.Alpha,.slice (yg16 12 0).a y48.Words.length (yg16 12 0).c,.slice (yg16 12 1).a y48.Kinds.length (yg16 12 1).c,vB y48.Least],vG (cV y3),vG [vS y54.Name,vB y54.Inherited,vU y54.Initial.Kind,vS y54.Initial.Word,vI y54.Initial.Num,vU y54.Initial.Color.Red,vU y54.Initial.Color.Green,vU y54.Initial.Color.Blue,vU y54.Initial.Color.Alpha,.slice (yg16 14 0).a y54.Words.length (yg16 14 0).c,.slice (yg16 14 1).a y54.Kinds.length (yg16 14 1).c,vB y54.Least],vK (yg16 15 0) 8,vK (yg16 15 0) 8]) (fun yg16 => [[],[],[eO 9 tS y17.Words (yg16 2 0),eO 5 (tI .u8) y17.Kinds (yg16 2 1)],[],[eO 9 tS y22.Words (yg16 4 0),eO 5 (tI .u8) y22.Kinds (yg16 4 1)],[],[eO 9 tS y27.Words (yg16 6 0),eO 5 (tI .u8) y27.Kinds (yg16 6 1)],[],[eO 9 tS y32.Words (yg16 8 0),eO 5 (tI .u8) y32.Kinds (yg16 8 1)],[eO 9 tS y37.Words (yg16 9 0),eO 5 (tI .u8) y37.Kinds (yg16 9 1)],[eO 9 tS y42.Words (yg16 10 0),eO 5 (tI .u8) y42.Kinds (yg16 10 1)],[],[eO 9 tS y48.Words (yg16 12 0),eO 5 (tI .u8) y48.Kinds (yg16 12 1),eI (tI .u8) ([] : List Int) (.nil)],[],[eO 9 tS y54.Words (yg16 14 0),eO 5 (tI .u8) y54.Kinds (yg16 14 1),eI (tI .u8) ([] : List Int) (.nil)],[eO 77 tyProp ([y17,y22,y27,y32,y37,y42,y48,y54] : List TProp) (yg16 15 0),eI (tI .u8) y54.Kinds (yg16 14 1),eI tS y54.Words (yg16 14 0),eI (tI .u8) y48.Kinds (yg16 12 1),eI tS y48.Words (yg16 12 0),eI (tI .u8) y42.Kinds (yg16 10 1),eI tS y42.Words (yg16 10 0),eI (tI .u8) y37.Kinds (yg16 9 1),eI tS y37.Words (yg16 9 0),eI (tI .u8) y32.Kinds (yg16 8 1),eI tS y32.Words (yg16 8 0),eI (tI .u8) y27.Kinds (yg16 6 1),eI tS y27.Words (yg16 6 0),eI (tI .u8) y22.Kinds (yg16 4 1),eI tS y22.Words (yg16 4 0),eI (tI .u8) y17.Kinds (yg16 2 1),eI tS y17.Words (yg16 2 0),eI (tI .u8) ([] : List Int) (.nil),eI (tI .u8) ([] : List Int) (.nil)],[]]) [[],[],[],[],[],[],[],[],[],[19],[19],[18],[19],[18],[19],[2,4,6,8,9,10,12,14],[15]] [[],[],[],[],[],[],[],[],[],[],[],[],[],[],[],[2,4,6,8,9,10,12,14],[]] [[0],[0,1],[0,1,2],[3],[3,4],[5],[5,6],[7],[7,8],[9],[10],[11],[11,12],[13],[13,14],[0,1,2,3,4,5,6,7,8,9,10,11,12,13,14,15],[0,1,2,3,4,5,6,7,8,9,10,11,12,13,14,15,16]] [] (FrG.keep (ks:=[1,2]) H15 (by kernel_rfl)) (fun _ _ h => by cases h) (by kernel_rfl) hS (by kernel_rfl) rfl rfl (by kernel_rfl) (by kernel_rfl) (by kernel_rfl) (gd_none (by kernel_rfl) _ _) ?hloc_yg16 ?hstep_yg16 fun _ _ yg16 H62 hv hS => ?hK_yg16
 case hloc_yg16 => exact ⟨(fun _ _ _ _ => ⟨rfl,rfl⟩),(fun _ _ _ _ => ⟨rfl,rfl⟩),(fun _ i g hi => lcG [2] (fun yg16 => (vG [vS y17.Name,vB y17.Inherited,vU y17.Initial.Kind,vS y17.Initial.Word,vI y17.Initial.Num,vU y17.Initial.Color.Red,vU y17.Initial.Color.Green,vU y17.Initial.Color.Blue,vU y17.Initial.Color.Alpha,.slice (yg16 2 0).a y17.Words.length (yg16 2 0).c,.slice (yg16 2 1).a y17.Kinds.length (yg16 2 1).c,vB y17.Least],[eO 9 tS y17.Words (yg16 2 0),eO 5 (tI .u8) y17.Kinds (yg16 2 1)])) hi rfl),(fun _ _ _ _ => ⟨rfl,rfl⟩),(fun _ i g hi => lcG [4] (fun yg16 => (vG [vS y22.Name,vB y22.Inherited,vU y22.Initial.Kind,vS y22.Initial.Word,vI y22.Initial.Num,vU y22.Initial.Color.Red,vU y22.Initial.Color.Green,vU y22.Initial.Color.Blue,vU y22.Initial.Color.Alpha,.slice (yg16 4 0).a y22.Words.length (yg16 4 0).c,.slice (yg16 4 1).a y22.Kinds.length (yg16 4 1).c,vB y22.Least],[eO 9 tS y22.Words (yg16 4 0),eO 5 (tI .u8) y22.Kinds (yg16 4 1)])) hi rfl),(fun _ _ _ _ => ⟨rfl,rfl⟩),(fun _ i g hi => lcG [6] (fun yg16 => (vG [vS y27.Name,vB y27.Inherited,vU y27.Initial.Kind,vS y27.Initial.Word,vI y27.Initial.Num,vU y27.Initial.Color.Red,vU y27.Initial.Color.Green,vU y27.Initial.Color.Blue,vU y27.Initial.Color.Alpha,.slice (yg16 6 0).a y27.Words.length (yg16 6 0).c,.slice (yg16 6 1).a y27.Kinds.length (yg16 6 1).c,vB y27.Least],[eO 9 tS y27.Words (yg16 6 0),eO 5 (tI .u8) y27.Kinds (yg16 6 1)])) hi rfl),(fun _ _ _ _ => ⟨rfl,rfl⟩),(fun _ i g hi => lcG [8] (fun yg16 => (vG [vS y32.Name,vB y32.Inherited,vU y32.Initial.Kind,vS y32.Initial.Word,vI y32.Initial.Num,vU y32.Initial.Color.Red,vU y32.Initial.Color.Green,vU y32.Initial.Color.Blue,vU y32.Initial.Color.Alpha,.slice (yg16 8 0).a y32.Words.length (yg16 8 0).c,.slice (yg16 8 1).a y32.Kinds.length (yg16 8 1).c,vB y32.Least],[eO 9 tS y32.Words (yg16 8 0),eO 5 (tI .u8) y32.Kinds (yg16 8 1)])) hi rfl),(fun _ i g hi => lcG [9] (fun yg16 => (vG [vS y37.Name,vB y37.Inherited,vU y37.Initial.Kind,vS y37.Initial.Word,vI y37.Initial.Num,vU y37.Initial.Color.Red,vU y37.Initial.Color.Green,vU y37.Initial.Color.Blue,vU y37.Initial.Color.Alpha,.slice (yg16 9 0).a y37.Words.length (yg16 9 0).c,.slice (yg16 9 1).a y37.Kinds.length (yg16 9 1).c,vB y37.Least],[eO 9 tS y37.Words (yg16 9 0),eO 5 (tI .u8) y37.Kinds (yg16 9 1)])) hi rfl),(fun _ i g hi => lcG [10] (fun yg16 => (vG [vS y42.Name,vB y42.Inherited,vU y42.Initial.Kind,vS y42.Initial.Word,vI y42.Initial.Num,vU y42.Initial.Color.Red,vU y42.Initial.Color.Green,vU y42.Initial.Color.Blue,vU y42.Initial.Color.Alpha,.slice (yg16 10 0).a y42.Words.length (yg16 10 0).c,.slice (yg16 10 1).a y42.Kinds.length (yg16 10 1).c,vB y42.Least],[eO 9 tS y42.Words (yg16 10 0),eO 5 (tI .u8) y42.Kinds (yg16 10 1)])) hi rfl),(fun _ _ _ _ => ⟨rfl,rfl⟩),(fun _ i g hi => lcG [12] (fun yg16 => (vG [vS y48.Name,vB y48.Inherited,vU y48.Initial.Kind,vS y48.Initial.Word,vI y48.Initial.Num,vU y48.Initial.Color.Red,vU y48.Initial.Color.Green,vU y48.Initial.Color.Blue,vU y48.Initial.Color.Alpha,.slice (yg16 12 0).a y48.Words.length (yg16 12 0).c,.slice (yg16 12 1).a y48.Kinds.length (yg16 12 1).c,vB y48.Least],[eO 9 tS y48.Words (yg16 12 0),eO 5 (tI .u8) y48.Kinds (yg16 12 1),eI (tI .u8) ([] : List Int) (.nil)])) hi rfl),(fun _ _ _ _ => ⟨rfl,rfl⟩),(fun _ i g hi => lcG [14] (fun yg16 => (vG [vS y54.Name,vB y54.Inherited,vU y54.Initial.Kind,vS y54.Initial.Word,vI y54.Initial.Num,vU y54.Initial.Color.Red,vU y54.Initial.Color.Green,vU y54.Initial.Color.Blue,vU y54.Initial.Color.Alpha,.slice (yg16 14 0).a y54.Words.length (yg16 14 0).c,.slice (yg16 14 1).a y54.Kinds.length (yg16 14 1).c,vB y54.Least],[eO 9 tS y54.Words (yg16 14 0),eO 5 (tI .u8) y54.Kinds (yg16 14 1),eI (tI .u8) ([] : List Int) (.nil)])) hi rfl),(fun _ i g hi => lcG [2,4,6,8,9,10,12,14,15] (fun yg16 => (vK (yg16 15 0) 8,[eO 77 tyProp ([y17,y22,y27,y32,y37,y42,y48,y54] : List TProp) (yg16 15 0),eI (tI .u8) y54.Kinds (yg16 14 1),eI tS y54.Words (yg16 14 0),eI (tI .u8) y48.Kinds (yg16 12 1),eI tS y48.Words (yg16 12 0),eI (tI .u8) y42.Kinds (yg16 10 1),eI tS y42.Words (yg16 10 0),eI (tI .u8) y37.Kinds (yg16 9 1),eI tS y37.Words (yg16 9 0),eI (tI .u8) y32.Kinds (yg16 8 1),eI tS y32.Words (yg16 8 0),eI (tI .u8) y27.Kinds (yg16 6 1),eI tS y27.Words (yg16 6 0),eI (tI .u8) y22.Kinds (yg16 4 1),eI tS y22.Words (yg16 4 0),eI (tI .u8) y17.Kinds (yg16 2 1),eI tS y17.Words (yg16 2 0),eI (tI .u8) ([] : List Int) (.nil),eI (tI .u8) ([] : List Int) (.nil)])) hi rfl),(fun _ i g hi => lcG [15] (fun yg16 => (vK (yg16 15 0) 8,[])) hi rfl),trivial⟩
 case hstep_yg16 =>
  refine ⟨?_,?_,?_,?_,?_,?_,?_,?_,?_,?_,?_,?_,?_,?_,?_,?_,?_,trivial⟩
  ·intro o ho a w yg16 M Hb hv hO hS
   obtain rfl:=someE ho
   exact Stp.mono (o_evs [] (vG [vU 0,vU 0,vU 0,vU 255]) none [] Hb rfl (by kernel_rfl) (fun q e => by cases e)) fun _ _ hq => ⟨gL [],fun _ _ => hq.1,(hS.below hq.2.below).sel [] rfl⟩
  ·intro o ho a w yg16 M Hb hv hO hS
   obtain rfl:=someE ho
   exact Stp.mono (o_evs [] (vG [vU 7,vN,vI 0,vU 0,vU 0,vU 0,vU 255]) none [] ((Hb).add (hv 0 (by decide) (by decide) 8 rfl)) rfl (by kernel_rfl) (fun q e => by cases e)) fun _ _ hq => ⟨gL [],fun _ _ => hq.1,(hS.below hq.2.below).sel [] rfl⟩
  ·intro o ho a w yg16 M Hb hv hO hS0
   obtain rfl:=someE ho
   have H : Fr 57 ([(9,[],vG [vU 7,vN,vI 0,vU 0,vU 0,vU 0,vU 255])] ++ (fS [1,2] [vP b6,vP b9])) _:=(Hb).add (hv 1 (by decide) (by decide) 9 rfl)
   obtain ⟨X,hX⟩ : ∃ X,X = fpl []:=⟨_,rfl⟩
   have hS : SH M X w [] w:=by rw [hX]; exact hS0
   have hd:=hS.hand [] [] rfl rfl
   refine Stp.mono (o_callx H rfl rfl (props_color_ok _ _ _ _ hy17.symm _ _ hd)) ?_
   rintro v w2 hq
   obtain ⟨g18,g20,rfl,hq⟩:=hq
   replace hS : SH M X w [eO 9 tS y17.Words g18,eO 5 (tI .u8) y17.Kinds g20] _:=hS.join [] [] rfl rfl hq
   rw [hX] at hS
   exact ⟨gL [g18,g20],fun _ _ => rfl,hS.sel [0,1] rfl⟩
  ·intro o ho a w yg16 M Hb hv hO hS
   obtain rfl:=someE ho
   exact Stp.mono (o_evs [] (vG [vU 7,vN,vI 0,vU 0,vU 0,vU 0,vU 0]) none [] Hb rfl (by kernel_rfl) (fun q e => by cases e)) fun _ _ hq => ⟨gL [],fun _ _ => hq.1,(hS.below hq.2.below).sel [] rfl⟩
  ·intro o ho a w yg16 M Hb hv hO hS0
   obtain rfl:=someE ho
   have H : Fr 57 ([(11,[],vG [vU 7,vN,vI 0,vU 0,vU 0,vU 0,vU 0])] ++ (fS [1,2] [vP b6,vP b9])) _:=(Hb).add (hv 3 (by decide) (by decide) 11 rfl)
   obtain ⟨X,hX⟩ : ∃ X,X = fpl []:=⟨_,rfl⟩
   have hS : SH M X w [] w:=by rw [hX]; exact hS0
   have hd:=hS.hand [] [] rfl rfl
   refine Stp.mono (o_callx H rfl rfl (props_color_ok _ _ _ _ hy22.symm _ _ hd)) ?_
   rintro v w2 hq
   obtain ⟨g23,g25,rfl,hq⟩:=hq
   replace hS : SH M X w [eO 9 tS y22.Words g23,eO 5 (tI .u8) y22.Kinds g25] _:=hS.join [] [] rfl rfl hq
   rw [hX] at hS
   exact ⟨gL [g23,g25],fun _ _ => rfl,hS.sel [0,1] rfl⟩
  ·intro o ho a w yg16 M Hb hv hO hS
   obtain rfl:=someE ho
   exact Stp.mono (o_evs [] (vG [vU 8,vN,vI 0,vU 0,vU 0,vU 0,vU 0]) none [] Hb rfl (by kernel_rfl) (fun q e => by cases e)) fun _ _ hq => ⟨gL [],fun _ _ => hq.1,(hS.below hq.2.below).sel [] rfl⟩
  ·intro o ho a w yg16 M Hb hv hO hS0
   obtain rfl:=someE ho
   have H : Fr 57 ([(13,[],vG [vU 8,vN,vI 0,vU 0,vU 0,vU 0,vU 0])] ++ (fS [1,2] [vP b6,vP b9])) _:=(Hb).add (hv 5 (by decide) (by decide) 13 rfl)
   obtain ⟨X,hX⟩ : ∃ X,X = fpl []:=⟨_,rfl⟩
   have hS : SH M X w [] w:=by rw [hX]; exact hS0
   have hd:=hS.hand [] [] rfl rfl
   refine Stp.mono (o_callx H rfl rfl (props_color_ok _ _ _ _ hy27.symm _ _ hd)) ?_
   rintro v w2 hq
   obtain ⟨g28,g30,rfl,hq⟩:=hq
   replace hS : SH M X w [eO 9 tS y27.Words g28,eO 5 (tI .u8) y27.Kinds g30] _:=hS.join [] [] rfl rfl hq
   rw [hX] at hS
   exact ⟨gL [g28,g30],fun _ _ => rfl,hS.sel [0,1] rfl⟩
  ·intro o ho a w yg16 M Hb hv hO hS
   obtain rfl:=someE ho
   exact Stp.mono (o_evs [] (vG [vU 8,vN,vI 0,vU 0,vU 0,vU 0,vU 0]) none [] Hb rfl (by kernel_rfl) (fun q e => by cases e)) fun _ _ hq => ⟨gL [],fun _ _ => hq.1,(hS.below hq.2.below).sel [] rfl⟩
  ·intro o ho a w yg16 M Hb hv hO hS0
   obtain rfl:=someE ho
   have H : Fr 57 ([(15,[],vG [vU 8,vN,vI 0,vU 0,vU 0,vU 0,vU 0])] ++ (fS [1,2] [vP b6,vP b9])) _:=(Hb).add (hv 7 (by decide) (by decide) 15 rfl)
   obtain ⟨X,hX⟩ : ∃ X,X = fpl []:=⟨_,rfl⟩
   have hS : SH M X w [] w:=by rw [hX]; exact hS0
   have hd:=hS.hand [] [] rfl rfl
   refine Stp.mono (o_callx H rfl rfl (props_color_ok _ _ _ _ hy32.symm _ _ hd)) ?_
   rintro v w2 hq
   obtain ⟨g33,g35,rfl,hq⟩:=hq
   replace hS : SH M X w [eO 9 tS y32.Words g33,eO 5 (tI .u8) y32.Kinds g35] _:=hS.join [] [] rfl rfl hq
   rw [hX] at hS
   exact ⟨gL [g33,g35],fun _ _ => rfl,hS.sel [0,1] rfl⟩
  ·intro o ho a w yg16 M Hb hv hO hS0
   obtain rfl:=someE ho
   have H : Fr 57 ([] ++ (fS [1,2] [vP b6,vP b9])) _:=Hb
   obtain ⟨X,hX⟩ : ∃ X,X = fpl [gE0]:=⟨_,rfl⟩
   have hS : SH M X w [gE0] w:=by rw [hX]; exact hS0
   have hd:=hS.hand [0] [0] rfl rfl
   refine Stp.mono (o_callx H rfl rfl (props_words_ok m _ _ _ _ _ hy37 _ _ hd)) ?_
   rintro v w2 hq
   obtain ⟨g38,g40,rfl,hq⟩:=hq
   replace hS : SH M X w [eO 9 tS y37.Words g38,eO 5 (tI .u8) y37.Kinds g40,gE0] _:=hS.join [0] [0] rfl rfl hq
   rw [hX] at hS
   exact ⟨gL [g38,g40],fun _ _ => rfl,hS.sel [0,1,2] rfl⟩
  ·intro o ho a w yg16 M Hb hv hO hS0
   obtain rfl:=someE ho
   have H : Fr 57 ([] ++ (fS [1,2] [vP b6,vP b9])) _:=Hb
   obtain ⟨X,hX⟩ : ∃ X,X = fpl [gE0]:=⟨_,rfl⟩
   have hS : SH M X w [gE0] w:=by rw [hX]; exact hS0
   have hd:=hS.hand [0] [0] rfl rfl
   refine Stp.mono (o_callx H rfl rfl (props_words_ok m _ _ _ _ _ hy42 _ _ hd)) ?_
   rintro v w2 hq
   obtain ⟨g43,g45,rfl,hq⟩:=hq
   replace hS : SH M X w [eO 9 tS y42.Words g43,eO 5 (tI .u8) y42.Kinds g45,gE0] _:=hS.join [0] [0] rfl rfl hq
   rw [hX] at hS
   exact ⟨gL [g43,g45],fun _ _ => rfl,hS.sel [0,1,2] rfl⟩
  ·intro o ho a w yg16 M Hb hv hO hS
   obtain rfl:=someE ho
   exact Stp.mono (o_evs [(vG (cV y3))] (vG (cV y3)) (some (rN b6 0 (cV y3))) [] Hb rfl (by kernel_rfl) (fun q e => by cases e; exact ((hS.bk 0 rfl).atD rfl))) fun _ _ hq => ⟨gL [],fun _ _ => hq.1,(hS.below hq.2.below).sel [0] rfl⟩
  ·intro o ho a w yg16 M Hb hv hO hS0
   obtain rfl:=someE ho
   have H : Fr 57 ([(19,[],vG (cV y3))] ++ (fS [1,2] [vP b6,vP b9])) _:=(Hb).add (hv 11 (by decide) (by decide) 19 rfl)
   obtain ⟨X,hX⟩ : ∃ X,X = fpl [gE0]:=⟨_,rfl⟩
   have hS : SH M X w [gE0] w:=by rw [hX]; exact hS0
   replace hS : SH M X w [eO 5 (tI .u8) ([] : List Int) (.nil),gE0] _:=hS.addNil 5 (tI .u8)
   replace hS : SH M X w [eI (tI .u8) ([] : List Int) (.nil),gE0] _:=SH.frz1 (hS.sel [0,1] rfl)
   have hd:=hS.hand [0,1] [0,1] rfl rfl
   refine Stp.mono (o_callx H rfl rfl (props_length_ok (g_more:=Gh.nil) m _ _ _ _ _ _ _ hy48 _ _ hd)) ?_
   rintro v w2 hq
   obtain ⟨g49,g51,rfl,hq⟩:=hq
   replace hS : SH M X w [eO 9 tS y48.Words g49,eO 5 (tI .u8) y48.Kinds g51,eI (tI .u8) ([] : List Int) (.nil),gE0] _:=hS.join [0,1] [0,1] rfl rfl hq
   rw [hX] at hS
   exact ⟨gL [g49,g51],fun _ _ => rfl,hS.sel [0,1,2,3] rfl⟩
  ·intro o ho a w yg16 M Hb hv hO hS
   obtain rfl:=someE ho
   exact Stp.mono (o_evs [(vG (cV y3))] (vG (cV y3)) (some (rN b6 0 (cV y3))) [] Hb rfl (by kernel_rfl) (fun q e => by cases e; exact ((hS.bk 0 rfl).atD rfl))) fun _ _ hq => ⟨gL [],fun _ _ => hq.1,(hS.below hq.2.below).sel [0] rfl⟩
  ·intro o ho a w yg16 M Hb hv hO hS0
   obtain rfl:=someE ho
   have H : Fr 57 ([(21,[],vG (cV y3))] ++ (fS [1,2] [vP b6,vP b9])) _:=(Hb).add (hv 13 (by decide) (by decide) 21 rfl)
   obtain ⟨X,hX⟩ : ∃ X,X = fpl [gE0]:=⟨_,rfl⟩
   have hS : SH M X w [gE0] w:=by rw [hX]; exact hS0
   replace hS : SH M X w [eO 5 (tI .u8) ([] : List Int) (.nil),gE0] _:=hS.addNil 5 (tI .u8)
   replace hS : SH M X w [eI (tI .u8) ([] : List Int) (.nil),gE0] _:=SH.frz1 (hS.sel [0,1] rfl)
   have hd:=hS.hand [0,1] [0,1] rfl rfl
   refine Stp.mono (o_callx H rfl rfl (props_length_ok (g_more:=Gh.nil) m _ _ _ _ _ _ _ hy54 _ _ hd)) ?_
   rintro v w2 hq
   obtain ⟨g55,g57,rfl,hq⟩:=hq
   replace hS : SH M X w [eO 9 tS y54.Words g55,eO 5 (tI .u8) y54.Kinds g57,eI (tI .u8) ([] : List Int) (.nil),gE0] _:=hS.join [0,1] [0,1] rfl rfl hq
   rw [hX] at hS
   exact ⟨gL [g55,g57],fun _ _ => rfl,hS.sel [0,1,2,3] rfl⟩
  ·intro o ho a w yg16 M Hb hv hO hS0
   obtain rfl:=someE ho
   have H : Fr 57 ((fS [22,20,18,17,16,14,12,10] [vG [vS y54.Name,vB y54.Inherited,vU y54.Initial.Kind,vS y54.Initial.Word,vI y54.Initial.Num,vU y54.Initial.Color.Red,vU y54.Initial.Color.Green,vU y54.Initial.Color.Blue,vU y54.Initial.Color.Alpha,.slice (yg16 14 0).a y54.Words.length (yg16 14 0).c,.slice (yg16 14 1).a y54.Kinds.length (yg16 14 1).c,vB y54.Least],vG [vS y48.Name,vB y48.Inherited,vU y48.Initial.Kind,vS y48.Initial.Word,vI y48.Initial.Num,vU y48.Initial.Color.Red,vU y48.Initial.Color.Green,vU y48.Initial.Color.Blue,vU y48.Initial.Color.Alpha,.slice (yg16 12 0).a y48.Words.length (yg16 12 0).c,.slice (yg16 12 1).a y48.Kinds.length (yg16 12 1).c,vB y48.Least],vG [vS y42.Name,vB y42.Inherited,vU y42.Initial.Kind,vS y42.Initial.Word,vI y42.Initial.Num,vU y42.Initial.Color.Red,vU y42.Initial.Color.Green,vU y42.Initial.Color.Blue,vU y42.Initial.Color.Alpha,.slice (yg16 10 0).a y42.Words.length (yg16 10 0).c,.slice (yg16 10 1).a y42.Kinds.length (yg16 10 1).c,vB y42.Least],vG [vS y37.Name,vB y37.Inherited,vU y37.Initial.Kind,vS y37.Initial.Word,vI y37.Initial.Num,vU y37.Initial.Color.Red,vU y37.Initial.Color.Green,vU y37.Initial.Color.Blue,vU y37.Initial.Color.Alpha,.slice (yg16 9 0).a y37.Words.length (yg16 9 0).c,.slice (yg16 9 1).a y37.Kinds.length (yg16 9 1).c,vB y37.Least],vG [vS y32.Name,vB y32.Inherited,vU y32.Initial.Kind,vS y32.Initial.Word,vI y32.Initial.Num,vU y32.Initial.Color.Red,vU y32.Initial.Color.Green,vU y32.Initial.Color.Blue,vU y32.Initial.Color.Alpha,.slice (yg16 8 0).a y32.Words.length (yg16 8 0).c,.slice (yg16 8 1).a y32.Kinds.length (yg16 8 1).c,vB y32.Least],vG [vS y27.Name,vB y27.Inherited,vU y27.Initial.Kind,vS y27.Initial.Word,vI y27.Initial.Num,vU y27.Initial.Color.Red,vU y27.Initial.Color.Green,vU y27.Initial.Color.Blue,vU y27.Initial.Color.Alpha,.slice (yg16 6 0).a y27.Words.length (yg16 6 0).c,.slice (yg16 6 1).a y27.Kinds.length (yg16 6 1).c,vB y27.Least],vG [vS y22.Name,vB y22.Inherited,vU y22.Initial.Kind,vS y22.Initial.Word,vI y22.Initial.Num,vU y22.Initial.Color.Red,vU y22.Initial.Color.Green,vU y22.Initial.Color.Blue,vU y22.Initial.Color.Alpha,.slice (yg16 4 0).a y22.Words.length (yg16 4 0).c,.slice (yg16 4 1).a y22.Kinds.length (yg16 4 1).c,vB y22.Least],vG [vS y17.Name,vB y17.Inherited,vU y17.Initial.Kind,vS y17.Initial.Word,vI y17.Initial.Num,vU y17.Initial.Color.Red,vU y17.Initial.Color.Green,vU y17.Initial.Color.Blue,vU y17.Initial.Color.Alpha,.slice (yg16 2 0).a y17.Words.length (yg16 2 0).c,.slice (yg16 2 1).a y17.Kinds.length (yg16 2 1).c,vB y17.Least]]) ++ (fS [1,2] [vP b6,vP b9])) _:=((((((((Hb).add (hv 2 (by decide) (by decide) 10 rfl)).add (hv 4 (by decide) (by decide) 12 rfl)).add (hv 6 (by decide) (by decide) 14 rfl)).add (hv 8 (by decide) (by decide) 16 rfl)).add (hv 9 (by decide) (by decide) 17 rfl)).add (hv 10 (by decide) (by decide) 18 rfl)).add (hv 12 (by decide) (by decide) 20 rfl)).add (hv 14 (by decide) (by decide) 22 rfl)
   obtain ⟨X,hX⟩ : ∃ X,X = fpl [eO 9 tS y17.Words (yg16 2 0),eO 5 (tI .u8) y17.Kinds (yg16 2 1),eO 9 tS y22.Words (yg16 4 0),eO 5 (tI .u8) y22.Kinds (yg16 4 1),eO 9 tS y27.Words (yg16 6 0),eO 5 (tI .u8) y27.Kinds (yg16 6 1),eO 9 tS y32.Words (yg16 8 0),eO 5 (tI .u8) y32.Kinds (yg16 8 1),eO 9 tS y37.Words (yg16 9 0),eO 5 (tI .u8) y37.Kinds (yg16 9 1),eO 9 tS y42.Words (yg16 10 0),eO 5 (tI .u8) y42.Kinds (yg16 10 1),eO 9 tS y48.Words (yg16 12 0),eO 5 (tI .u8) y48.Kinds (yg16 12 1),eI (tI .u8) ([] : List Int) (.nil),eO 9 tS y54.Words (yg16 14 0),eO 5 (tI .u8) y54.Kinds (yg16 14 1),eI (tI .u8) ([] : List Int) (.nil)]:=⟨_,rfl⟩
   have hS : SH M X w [eO 9 tS y17.Words (yg16 2 0),eO 5 (tI .u8) y17.Kinds (yg16 2 1),eO 9 tS y22.Words (yg16 4 0),eO 5 (tI .u8) y22.Kinds (yg16 4 1),eO 9 tS y27.Words (yg16 6 0),eO 5 (tI .u8) y27.Kinds (yg16 6 1),eO 9 tS y32.Words (yg16 8 0),eO 5 (tI .u8) y32.Kinds (yg16 8 1),eO 9 tS y37.Words (yg16 9 0),eO 5 (tI .u8) y37.Kinds (yg16 9 1),eO 9 tS y42.Words (yg16 10 0),eO 5 (tI .u8) y42.Kinds (yg16 10 1),eO 9 tS y48.Words (yg16 12 0),eO 5 (tI .u8) y48.Kinds (yg16 12 1),eI (tI .u8) ([] : List Int) (.nil),eO 9 tS y54.Words (yg16 14 0),eO 5 (tI .u8) y54.Kinds (yg16 14 1),eI (tI .u8) ([] : List Int) (.nil)] w:=by rw [hX]; exact hS0
   replace hS : SH M X w [eI tS y17.Words (yg16 2 0),eO 5 (tI .u8) y17.Kinds (yg16 2 1),eO 9 tS y22.Words (yg16 4 0),eO 5 (tI .u8) y22.Kinds (yg16 4 1),eO 9 tS y27.Words (yg16 6 0),eO 5 (tI .u8) y27.Kinds (yg16 6 1),eO 9 tS y32.Words (yg16 8 0),eO 5 (tI .u8) y32.Kinds (yg16 8 1),eO 9 tS y37.Words (yg16 9 0),eO 5 (tI .u8) y37.Kinds (yg16 9 1),eO 9 tS y42.Words (yg16 10 0),eO 5 (tI .u8) y42.Kinds (yg16 10 1),eO 9 tS y48.Words (yg16 12 0),eO 5 (tI .u8) y48.Kinds (yg16 12 1),eI (tI .u8) ([] : List Int) (.nil),eO 9 tS y54.Words (yg16 14 0),eO 5 (tI .u8) y54.Kinds (yg16 14 1),eI (tI .u8) ([] : List Int) (.nil)] _:=SH.frz1 (hS.sel [0,1,2,3,4,5,6,7,8,9,10,11,12,13,14,15,16,17] rfl)
   replace hS : SH M X w [eI (tI .u8) y17.Kinds (yg16 2 1),eI tS y17.Words (yg16 2 0),eO 9 tS y22.Words (yg16 4 0),eO 5 (tI .u8) y22.Kinds (yg16 4 1),eO 9 tS y27.Words (yg16 6 0),eO 5 (tI .u8) y27.Kinds (yg16 6 1),eO 9 tS y32.Words (yg16 8 0),eO 5 (tI .u8) y32.Kinds (yg16 8 1),eO 9 tS y37.Words (yg16 9 0),eO 5 (tI .u8) y37.Kinds (yg16 9 1),eO 9 tS y42.Words (yg16 10 0),eO 5 (tI .u8) y42.Kinds (yg16 10 1),eO 9 tS y48.Words (yg16 12 0),eO 5 (tI .u8) y48.Kinds (yg16 12 1),eI (tI .u8) ([] : List Int) (.nil),eO 9 tS y54.Words (yg16 14 0),eO 5 (tI .u8) y54.Kinds (yg16 14 1),eI (tI .u8) ([] : List Int) (.nil)] _:=SH.frz1 (hS.sel [1,0,2,3,4,5,6,7,8,9,10,11,12,13,14,15,16,17] rfl)
   replace hS : SH M X w [eI tS y22.Words (yg16 4 0),eI (tI .u8) y17.Kinds (yg16 2 1),eI tS y17.Words (yg16 2 0),eO 5 (tI .u8) y22.Kinds (yg16 4 1),eO 9 tS y27.Words (yg16 6 0),eO 5 (tI .u8) y27.Kinds (yg16 6 1),eO 9 tS y32.Words (yg16 8 0),eO 5 (tI .u8) y32.Kinds (yg16 8 1),eO 9 tS y37.Words (yg16 9 0),eO 5 (tI .u8) y37.Kinds (yg16 9 1),eO 9 tS y42.Words (yg16 10 0),eO 5 (tI .u8) y42.Kinds (yg16 10 1),eO 9 tS y48.Words (yg16 12 0),eO 5 (tI .u8) y48.Kinds (yg16 12 1),eI (tI .u8) ([] : List Int) (.nil),eO 9 tS y54.Words (yg16 14 0),eO 5 (tI .u8) y54.Kinds (yg16 14 1),eI (tI .u8) ([] : List Int) (.nil)] _:=SH.frz1 (hS.sel [2,0,1,3,4,5,6,7,8,9,10,11,12,13,14,15,16,17] rfl)
   replace hS : SH M X w [eI (tI .u8) y22.Kinds (yg16 4 1),eI tS y22.Words (yg16 4 0),eI (tI .u8) y17.Kinds (yg16 2 1),eI tS y17.Words (yg16 2 0),eO 9 tS y27.Words (yg16 6 0),eO 5 (tI .u8) y27.Kinds (yg16 6 1),eO 9 tS y32.Words (yg16 8 0),eO 5 (tI .u8) y32.Kinds (yg16 8 1),eO 9 tS y37.Words (yg16 9 0),eO 5 (tI .u8) y37.Kinds (yg16 9 1),eO 9 tS y42.Words (yg16 10 0),eO 5 (tI .u8) y42.Kinds (yg16 10 1),eO 9 tS y48.Words (yg16 12 0),eO 5 (tI .u8) y48.Kinds (yg16 12 1),eI (tI .u8) ([] : List Int) (.nil),eO 9 tS y54.Words (yg16 14 0),eO 5 (tI .u8) y54.Kinds (yg16 14 1),eI (tI .u8) ([] : List Int) (.nil)] _:=SH.frz1 (hS.sel [3,0,1,2,4,5,6,7,8,9,10,11,12,13,14,15,16,17] rfl)
   replace hS : SH M X w [eI tS y27.Words (yg16 6 0),eI (tI .u8) y22.Kinds (yg16 4 1),eI tS y22.Words (yg16 4 0),eI (tI .u8) y17.Kinds (yg16 2 1),eI tS y17.Words (yg16 2 0),eO 5 (tI .u8) y27.Kinds (yg16 6 1),eO 9 tS y32.Words (yg16 8 0),eO 5 (tI .u8) y32.Kinds (yg16 8 1),eO 9 tS y37.Words (yg16 9 0),eO 5 (tI .u8) y37.Kinds (yg16 9 1),eO 9 tS y42.Words (yg16 10 0),eO 5 (tI .u8) y42.Kinds (yg16 10 1),eO 9 tS y48.Words (yg16 12 0),eO 5 (tI .u8) y48.Kinds (yg16 12 1),eI (tI .u8) ([] : List Int) (.nil),eO 9 tS y54.Words (yg16 14 0),eO 5 (tI .u8) y54.Kinds (yg16 14 1),eI (tI .u8) ([] : List Int) (.nil)] _:=SH.frz1 (hS.sel [4,0,1,2,3,5,6,7,8,9,10,11,12,13,14,15,16,17] rfl)
   replace hS : SH M X w [eI (tI .u8) y27.Kinds (yg16 6 1),eI tS y27.Words (yg16 6 0),eI (tI .u8) y22.Kinds (yg16 4 1),eI tS y22.Words (yg16 4 0),eI (tI .u8) y17.Kinds (yg16 2 1),eI tS y17.Words (yg16 2 0),eO 9 tS y32.Words (yg16 8 0),eO 5 (tI .u8) y32.Kinds (yg16 8 1),eO 9 tS y37.Words (yg16 9 0),eO 5 (tI .u8) y37.Kinds (yg16 9 1),eO 9 tS y42.Words (yg16 10 0),eO 5 (tI .u8) y42.Kinds (yg16 10 1),eO 9 tS y48.Words (yg16 12 0),eO 5 (tI .u8) y48.Kinds (yg16 12 1),eI (tI .u8) ([] : List Int) (.nil),eO 9 tS y54.Words (yg16 14 0),eO 5 (tI .u8) y54.Kinds (yg16 14 1),eI (tI .u8) ([] : List Int) (.nil)] _:=SH.frz1 (hS.sel [5,0,1,2,3,4,6,7,8,9,10,11,12,13,14,15,16,17] rfl)
   replace hS : SH M X w [eI tS y32.Words (yg16 8 0),eI (tI .u8) y27.Kinds (yg16 6 1),eI tS y27.Words (yg16 6 0),eI (tI .u8) y22.Kinds (yg16 4 1),eI tS y22.Words (yg16 4 0),eI (tI .u8) y17.Kinds (yg16 2 1),eI tS y17.Words (yg16 2 0),eO 5 (tI .u8) y32.Kinds (yg16 8 1),eO 9 tS y37.Words (yg16 9 0),eO 5 (tI .u8) y37.Kinds (yg16 9 1),eO 9 tS y42.Words (yg16 10 0),eO 5 (tI .u8) y42.Kinds (yg16 10 1),eO 9 tS y48.Words (yg16 12 0),eO 5 (tI .u8) y48.Kinds (yg16 12 1),eI (tI .u8) ([] : List Int) (.nil),eO 9 tS y54.Words (yg16 14 0),eO 5 (tI .u8) y54.Kinds (yg16 14 1),eI (tI .u8) ([] : List Int) (.nil)] _:=SH.frz1 (hS.sel [6,0,1,2,3,4,5,7,8,9,10,11,12,13,14,15,16,17] rfl)
   replace hS : SH M X w [eI (tI .u8) y32.Kinds (yg16 8 1),eI tS y32.Words (yg16 8 0),eI (tI .u8) y27.Kinds (yg16 6 1),eI tS y27.Words (yg16 6 0),eI (tI .u8) y22.Kinds (yg16 4 1),eI tS y22.Words (yg16 4 0),eI (tI .u8) y17.Kinds (yg16 2 1),eI tS y17.Words (yg16 2 0),eO 9 tS y37.Words (yg16 9 0),eO 5 (tI .u8) y37.Kinds (yg16 9 1),eO 9 tS y42.Words (yg16 10 0),eO 5 (tI .u8) y42.Kinds (yg16 10 1),eO 9 tS y48.Words (yg16 12 0),eO 5 (tI .u8) y48.Kinds (yg16 12 1),eI (tI .u8) ([] : List Int) (.nil),eO 9 tS y54.Words (yg16 14 0),eO 5 (tI .u8) y54.Kinds (yg16 14 1),eI (tI .u8) ([] : List Int) (.nil)] _:=SH.frz1 (hS.sel [7,0,1,2,3,4,5,6,8,9,10,11,12,13,14,15,16,17] rfl)
   replace hS : SH M X w [eI tS y37.Words (yg16 9 0),eI (tI .u8) y32.Kinds (yg16 8 1),eI tS y32.Words (yg16 8 0),eI (tI .u8) y27.Kinds (yg16 6 1),eI tS y27.Words (yg16 6 0),eI (tI .u8) y22.Kinds (yg16 4 1),eI tS y22.Words (yg16 4 0),eI (tI .u8) y17.Kinds (yg16 2 1),eI tS y17.Words (yg16 2 0),eO 5 (tI .u8) y37.Kinds (yg16 9 1),eO 9 tS y42.Words (yg16 10 0),eO 5 (tI .u8) y42.Kinds (yg16 10 1),eO 9 tS y48.Words (yg16 12 0),eO 5 (tI .u8) y48.Kinds (yg16 12 1),eI (tI .u8) ([] : List Int) (.nil),eO 9 tS y54.Words (yg16 14 0),eO 5 (tI .u8) y54.Kinds (yg16 14 1),eI (tI .u8) ([] : List Int) (.nil)] _:=SH.frz1 (hS.sel [8,0,1,2,3,4,5,6,7,9,10,11,12,13,14,15,16,17] rfl)
   replace hS : SH M X w [eI (tI .u8) y37.Kinds (yg16 9 1),eI tS y37.Words (yg16 9 0),eI (tI .u8) y32.Kinds (yg16 8 1),eI tS y32.Words (yg16 8 0),eI (tI .u8) y27.Kinds (yg16 6 1),eI tS y27.Words (yg16 6 0),eI (tI .u8) y22.Kinds (yg16 4 1),eI tS y22.Words (yg16 4 0),eI (tI .u8) y17.Kinds (yg16 2 1),eI tS y17.Words (yg16 2 0),eO 9 tS y42.Words (yg16 10 0),eO 5 (tI .u8) y42.Kinds (yg16 10 1),eO 9 tS y48.Words (yg16 12 0),eO 5 (tI .u8) y48.Kinds (yg16 12 1),eI (tI .u8) ([] : List Int) (.nil),eO 9 tS y54.Words (yg16 14 0),eO 5 (tI .u8) y54.Kinds (yg16 14 1),eI (tI .u8) ([] : List Int) (.nil)] _:=SH.frz1 (hS.sel [9,0,1,2,3,4,5,6,7,8,10,11,12,13,14,15,16,17] rfl)
   replace hS : SH M X w [eI tS y42.Words (yg16 10 0),eI (tI .u8) y37.Kinds (yg16 9 1),eI tS y37.Words (yg16 9 0),eI (tI .u8) y32.Kinds (yg16 8 1),eI tS y32.Words (yg16 8 0),eI (tI .u8) y27.Kinds (yg16 6 1),eI tS y27.Words (yg16 6 0),eI (tI .u8) y22.Kinds (yg16 4 1),eI tS y22.Words (yg16 4 0),eI (tI .u8) y17.Kinds (yg16 2 1),eI tS y17.Words (yg16 2 0),eO 5 (tI .u8) y42.Kinds (yg16 10 1),eO 9 tS y48.Words (yg16 12 0),eO 5 (tI .u8) y48.Kinds (yg16 12 1),eI (tI .u8) ([] : List Int) (.nil),eO 9 tS y54.Words (yg16 14 0),eO 5 (tI .u8) y54.Kinds (yg16 14 1),eI (tI .u8) ([] : List Int) (.nil)] _:=SH.frz1 (hS.sel [10,0,1,2,3,4,5,6,7,8,9,11,12,13,14,15,16,17] rfl)
   replace hS : SH M X w [eI (tI .u8) y42.Kinds (yg16 10 1),eI tS y42.Words (yg16 10 0),eI (tI .u8) y37.Kinds (yg16 9 1),eI tS y37.Words (yg16 9 0),eI (tI .u8) y32.Kinds (yg16 8 1),eI tS y32.Words (yg16 8 0),eI (tI .u8) y27.Kinds (yg16 6 1),eI tS y27.Words (yg16 6 0),eI (tI .u8) y22.Kinds (yg16 4 1),eI tS y22.Words (yg16 4 0),eI (tI .u8) y17.Kinds (yg16 2 1),eI tS y17.Words (yg16 2 0),eO 9 tS y48.Words (yg16 12 0),eO 5 (tI .u8) y48.Kinds (yg16 12 1),eI (tI .u8) ([] : List Int) (.nil),eO 9 tS y54.Words (yg16 14 0),eO 5 (tI .u8) y54.Kinds (yg16 14 1),eI (tI .u8) ([] : List Int) (.nil)] _:=SH.frz1 (hS.sel [11,0,1,2,3,4,5,6,7,8,9,10,12,13,14,15,16,17] rfl)
   replace hS : SH M X w [eI tS y48.Words (yg16 12 0),eI (tI .u8) y42.Kinds (yg16 10 1),eI tS y42.Words (yg16 10 0),eI (tI .u8) y37.Kinds (yg16 9 1),eI tS y37.Words (yg16 9 0),eI (tI .u8) y32.Kinds (yg16 8 1),eI tS y32.Words (yg16 8 0),eI (tI .u8) y27.Kinds (yg16 6 1),eI tS y27.Words (yg16 6 0),eI (tI .u8) y22.Kinds (yg16 4 1),eI tS y22.Words (yg16 4 0),eI (tI .u8) y17.Kinds (yg16 2 1),eI tS y17.Words (yg16 2 0),eO 5 (tI .u8) y48.Kinds (yg16 12 1),eI (tI .u8) ([] : List Int) (.nil),eO 9 tS y54.Words (yg16 14 0),eO 5 (tI .u8) y54.Kinds (yg16 14 1),eI (tI .u8) ([] : List Int) (.nil)] _:=SH.frz1 (hS.sel [12,0,1,2,3,4,5,6,7,8,9,10,11,13,14,15,16,17] rfl)
   replace hS : SH M X w [eI (tI .u8) y48.Kinds (yg16 12 1),eI tS y48.Words (yg16 12 0),eI (tI .u8) y42.Kinds (yg16 10 1),eI tS y42.Words (yg16 10 0),eI (tI .u8) y37.Kinds (yg16 9 1),eI tS y37.Words (yg16 9 0),eI (tI .u8) y32.Kinds (yg16 8 1),eI tS y32.Words (yg16 8 0),eI (tI .u8) y27.Kinds (yg16 6 1),eI tS y27.Words (yg16 6 0),eI (tI .u8) y22.Kinds (yg16 4 1),eI tS y22.Words (yg16 4 0),eI (tI .u8) y17.Kinds (yg16 2 1),eI tS y17.Words (yg16 2 0),eI (tI .u8) ([] : List Int) (.nil),eO 9 tS y54.Words (yg16 14 0),eO 5 (tI .u8) y54.Kinds (yg16 14 1),eI (tI .u8) ([] : List Int) (.nil)] _:=SH.frz1 (hS.sel [13,0,1,2,3,4,5,6,7,8,9,10,11,12,14,15,16,17] rfl)
   replace hS : SH M X w [eI tS y54.Words (yg16 14 0),eI (tI .u8) y48.Kinds (yg16 12 1),eI tS y48.Words (yg16 12 0),eI (tI .u8) y42.Kinds (yg16 10 1),eI tS y42.Words (yg16 10 0),eI (tI .u8) y37.Kinds (yg16 9 1),eI tS y37.Words (yg16 9 0),eI (tI .u8) y32.Kinds (yg16 8 1),eI tS y32.Words (yg16 8 0),eI (tI .u8) y27.Kinds (yg16 6 1),eI tS y27.Words (yg16 6 0),eI (tI .u8) y22.Kinds (yg16 4 1),eI tS y22.Words (yg16 4 0),eI (tI .u8) y17.Kinds (yg16 2 1),eI tS y17.Words (yg16 2 0),eI (tI .u8) ([] : List Int) (.nil),eO 5 (tI .u8) y54.Kinds (yg16 14 1),eI (tI .u8) ([] : List Int) (.nil)] _:=SH.frz1 (hS.sel [15,0,1,2,3,4,5,6,7,8,9,10,11,12,13,14,16,17] rfl)
   replace hS : SH M X w [eI (tI .u8) y54.Kinds (yg16 14 1),eI tS y54.Words (yg16 14 0),eI (tI .u8) y48.Kinds (yg16 12 1),eI tS y48.Words (yg16 12 0),eI (tI .u8) y42.Kinds (yg16 10 1),eI tS y42.Words (yg16 10 0),eI (tI .u8) y37.Kinds (yg16 9 1),eI tS y37.Words (yg16 9 0),eI (tI .u8) y32.Kinds (yg16 8 1),eI tS y32.Words (yg16 8 0),eI (tI .u8) y27.Kinds (yg16 6 1),eI tS y27.Words (yg16 6 0),eI (tI .u8) y22.Kinds (yg16 4 1),eI tS y22.Words (yg16 4 0),eI (tI .u8) y17.Kinds (yg16 2 1),eI tS y17.Words (yg16 2 0),eI (tI .u8) ([] : List Int) (.nil),eI (tI .u8) ([] : List Int) (.nil)] _:=SH.frz1 (hS.sel [16,0,1,2,3,4,5,6,7,8,9,10,11,12,13,14,15,17] rfl)
   have hd:=hS.hand [15,14,13,12,11,10,9,8,7,6,5,4,3,2,1,0] [0,1,2,3,4,5,6,7,8,9,10,11,12,13,14,15,16,17] rfl rfl
   refine Stp.mono (o_lit (T:=tyProp) (E:=77) (zv:=vG [vN,vF,vU 0,vN,vI 0,vU 0,vU 0,vU 0,vU 0,vO,vO,vF]) [vS y17.Name,vB y17.Inherited,vU y17.Initial.Kind,vS y17.Initial.Word,vI y17.Initial.Num,vU y17.Initial.Color.Red,vU y17.Initial.Color.Green,vU y17.Initial.Color.Blue,vU y17.Initial.Color.Alpha,.slice (yg16 2 0).a y17.Words.length (yg16 2 0).c,.slice (yg16 2 1).a y17.Kinds.length (yg16 2 1).c,vB y17.Least,vS y22.Name,vB y22.Inherited,vU y22.Initial.Kind,vS y22.Initial.Word,vI y22.Initial.Num,vU y22.Initial.Color.Red,vU y22.Initial.Color.Green,vU y22.Initial.Color.Blue,vU y22.Initial.Color.Alpha,.slice (yg16 4 0).a y22.Words.length (yg16 4 0).c,.slice (yg16 4 1).a y22.Kinds.length (yg16 4 1).c,vB y22.Least,vS y27.Name,vB y27.Inherited,vU y27.Initial.Kind,vS y27.Initial.Word,vI y27.Initial.Num,vU y27.Initial.Color.Red,vU y27.Initial.Color.Green,vU y27.Initial.Color.Blue,vU y27.Initial.Color.Alpha,.slice (yg16 6 0).a y27.Words.length (yg16 6 0).c,.slice (yg16 6 1).a y27.Kinds.length (yg16 6 1).c,vB y27.Least,vS y32.Name,vB y32.Inherited,vU y32.Initial.Kind,vS y32.Initial.Word,vI y32.Initial.Num,vU y32.Initial.Color.Red,vU y32.Initial.Color.Green,vU y32.Initial.Color.Blue,vU y32.Initial.Color.Alpha,.slice (yg16 8 0).a y32.Words.length (yg16 8 0).c,.slice (yg16 8 1).a y32.Kinds.length (yg16 8 1).c,vB y32.Least,vS y37.Name,vB y37.Inherited,vU y37.Initial.Kind,vS y37.Initial.Word,vI y37.Initial.Num,vU y37.Initial.Color.Red,vU y37.Initial.Color.Green,vU y37.Initial.Color.Blue,vU y37.Initial.Color.Alpha,.slice (yg16 9 0).a y37.Words.length (yg16 9 0).c,.slice (yg16 9 1).a y37.Kinds.length (yg16 9 1).c,vB y37.Least,vS y42.Name,vB y42.Inherited,vU y42.Initial.Kind,vS y42.Initial.Word,vI y42.Initial.Num,vU y42.Initial.Color.Red,vU y42.Initial.Color.Green,vU y42.Initial.Color.Blue,vU y42.Initial.Color.Alpha,.slice (yg16 10 0).a y42.Words.length (yg16 10 0).c,.slice (yg16 10 1).a y42.Kinds.length (yg16 10 1).c,vB y42.Least,vS y48.Name,vB y48.Inherited,vU y48.Initial.Kind,vS y48.Initial.Word,vI y48.Initial.Num,vU y48.Initial.Color.Red,vU y48.Initial.Color.Green,vU y48.Initial.Color.Blue,vU y48.Initial.Color.Alpha,.slice (yg16 12 0).a y48.Words.length (yg16 12 0).c,.slice (yg16 12 1).a y48.Kinds.length (yg16 12 1).c,vB y48.Least,vS y54.Name,vB y54.Inherited,vU y54.Initial.Kind,vS y54.Initial.Word,vI y54.Initial.Num,vU y54.Initial.Color.Red,vU y54.Initial.Color.Green,vU y54.Initial.Color.Blue,vU y54.Initial.Color.Alpha,.slice (yg16 14 0).a y54.Words.length (yg16 14 0).c,.slice (yg16 14 1).a y54.Kinds.length (yg16 14 1).c,vB y54.Least] ([y17,y22,y27,y32,y37,y42,y48,y54] : List TProp) [gL [(yg16 2 0),(yg16 2 1)],gL [(yg16 4 0),(yg16 4 1)],gL [(yg16 6 0),(yg16 6 1)],gL [(yg16 8 0),(yg16 8 1)],gL [(yg16 9 0),(yg16 9 1)],gL [(yg16 10 0),(yg16 10 1)],gL [(yg16 12 0),(yg16 12 1)],gL [(yg16 14 0),(yg16 14 1)]] _ H hd rfl (by kernel_rfl) (by kernel_rfl) (by kernel_rfl) (by kernel_rfl) (by kernel_rfl) (by kernel_rfl) (by kernel_rfl) rfl (InnL.cons (tyProp_mk (hd.im 0 rfl) (hd.im 1 rfl)) (InnL.cons (tyProp_mk (hd.im 2 rfl) (hd.im 3 rfl)) (InnL.cons (tyProp_mk (hd.im 4 rfl) (hd.im 5 rfl)) (InnL.cons (tyProp_mk (hd.im 6 rfl) (hd.im 7 rfl)) (InnL.cons (tyProp_mk (hd.im 8 rfl) (hd.im 9 rfl)) (InnL.cons (tyProp_mk (hd.im 10 rfl) (hd.im 11 rfl)) (InnL.cons (tyProp_mk (hd.im 12 rfl) (hd.im 13 rfl)) (InnL.cons (tyProp_mk (hd.im 14 rfl) (hd.im 15 rfl)) InnL.nil))))))))) ?_
   rintro v w2 hq
   obtain ⟨g59,rfl,hq⟩:=hq
   replace hS : SH M X w [eO 77 tyProp ([y17,y22,y27,y32,y37,y42,y48,y54] : List TProp) g59,eI (tI .u8) y54.Kinds (yg16 14 1),eI tS y54.Words (yg16 14 0),eI (tI .u8) y48.Kinds (yg16 12 1),eI tS y48.Words (yg16 12 0),eI (tI .u8) y42.Kinds (yg16 10 1),eI tS y42.Words (yg16 10 0),eI (tI .u8) y37.Kinds (yg16 9 1),eI tS y37.Words (yg16 9 0),eI (tI .u8) y32.Kinds (yg16 8 1),eI tS y32.Words (yg16 8 0),eI (tI .u8) y27.Kinds (yg16 6 1),eI tS y27.Words (yg16 6 0),eI (tI .u8) y22.Kinds (yg16 4 1),eI tS y22.Words (yg16 4 0),eI (tI .u8) y17.Kinds (yg16 2 1),eI tS y17.Words (yg16 2 0),eI (tI .u8) ([] : List Int) (.nil),eI (tI .u8) ([] : List Int) (.nil)] _:=hS.join [15,14,13,12,11,10,9,8,7,6,5,4,3,2,1,0] [0,1,2,3,4,5,6,7,8,9,10,11,12,13,14,15,16,17] rfl rfl hq
   rw [hX] at hS
   exact ⟨gL [g59],fun _ _ => rfl,hS.sel [0,1,2,3,4,5,6,7,8,9,10,11,12,13,14,15,16,17,18] rfl⟩
  ·intro o ho a w yg16 M Hb hv hO hS
   obtain rfl:=someE ho
   exact Stp.mono (o_evs [] (vK (yg16 15 0) 8) none [] ((Hb).add (hv 15 (by decide) (by decide) 23 rfl)) rfl (by kernel_rfl) (fun q e => by cases e)) fun _ _ hq => ⟨gL [],fun _ _ => hq.1,(hS.below hq.2.below).sel [0,1,2,3,4,5,6,7,8,9,10,11,12,13,14,15,16,17,18] rfl⟩
 have H63 : Fr 57 (fS [3,1,2] [vK (yg16 15 0) 8,vP b6,vP b9]) _:=(FrG.add (FrG.keep (ks:=[1,2]) H62 (by kernel_rfl)) (hv 16 3 rfl))
 replace hS : SH M X w [eO 77 tyProp ([y17,y22,y27,y32,y37,y42,y48,y54] : List TProp) (yg16 15 0),eI (tI .u8) y54.Kinds (yg16 14 1),eI tS y54.Words (yg16 14 0),eI (tI .u8) y48.Kinds (yg16 12 1),eI tS y48.Words (yg16 12 0),eI (tI .u8) y42.Kinds (yg16 10 1),eI tS y42.Words (yg16 10 0),eI (tI .u8) y37.Kinds (yg16 9 1),eI tS y37.Words (yg16 9 0),eI (tI .u8) y32.Kinds (yg16 8 1),eI tS y32.Words (yg16 8 0),eI (tI .u8) y27.Kinds (yg16 6 1),eI tS y27.Words (yg16 6 0),eI (tI .u8) y22.Kinds (yg16 4 1),eI tS y22.Words (yg16 4 0),eI (tI .u8) y17.Kinds (yg16 2 1),eI tS y17.Words (yg16 2 0),eI (tI .u8) ([] : List Int) (.nil),eI (tI .u8) ([] : List Int) (.nil),eB b9 [vU 2,vN,vI 0,vU 0,vU 0,vU 0,vU 0],eB b6 (cV y3),gE0] _:=hS
 clear hv H62
 generalize yg16 15 0 = g64 at H63 hS
 generalize yg16 14 1 = g65 at H63 hS
 generalize yg16 14 0 = g66 at H63 hS
 generalize yg16 12 1 = g67 at H63 hS
 generalize yg16 12 0 = g68 at H63 hS
 generalize yg16 10 1 = g69 at H63 hS
 generalize yg16 10 0 = g70 at H63 hS
 generalize yg16 9 1 = g71 at H63 hS
 generalize yg16 9 0 = g72 at H63 hS
 generalize yg16 8 1 = g73 at H63 hS
 generalize yg16 8 0 = g74 at H63 hS
 generalize yg16 6 1 = g75 at H63 hS
 generalize yg16 6 0 = g76 at H63 hS
 generalize yg16 4 1 = g77 at H63 hS
 generalize yg16 4 0 = g78 at H63 hS
 generalize yg16 2 1 = g79 at H63 hS
 generalize yg16 2 0 = g80 at H63 hS
 replace hS : SH M X w [eO 77 tyProp ([y17,y22,y27,y32,y37,y42,y48,y54] : List TProp) g64,eB b9 [vU 2,vN,vI 0,vU 0,vU 0,vU 0,vU 0],eB b6 (cV y3),gE0] _:=hS.sel [0,19,20,21] rfl
 obtain ⟨z81,hz,hm⟩:=bindE hm
 refine w_cut (fun a' w' => ∃ (g123 : Gh),Fr 57 (fS [1,3] [vP b6,vL g123 z81]) a' ∧ SH M X w [eO 77 tyProp z81 g123,eB b9 [vU 2,vN,vI 0,vU 0,vU 0,vU 0,vU 0],eB b6 (cV y3),gE0] w') ?_ ?_
 ·replace hm:=hz
  apply w_seq
  apply wl_start
  have hd:=hS.hand [] [0,1,2,3] rfl rfl
  refine m_stp [24,1,2,3] (fS [1,2,3] [vP b6,vP b9,vK g64 8]) H63 rfl rfl rfl rfl (o_lit (T:=tS) (E:=9) (zv:=vN) [vS [116,111,112],vS [114,105,103,104,116],vS [98,111,116,116,111,109],vS [108,101,102,116]] kL6 [gL [],gL [],gL [],gL []] _ H63 hd rfl (by kernel_rfl) (by kernel_rfl) (by kernel_rfl) (by kernel_rfl) (by kernel_rfl) (by kernel_rfl) (by kernel_rfl) rfl (InnL.cons trivial (InnL.cons trivial (InnL.cons trivial (InnL.cons trivial InnL.nil))))) (fun _ => rfl) fun _ _ v H85 hq => ?_
  obtain ⟨g82,rfl,hq⟩:=hq
  replace hS : SH M X w [eO 9 tS kL6 g82,eO 77 tyProp ([y17,y22,y27,y32,y37,y42,y48,y54] : List TProp) g64,eB b9 [vU 2,vN,vI 0,vU 0,vU 0,vU 0,vU 0],eB b6 (cV y3),gE0] _:=hS.join [] [0,1,2,3] rfl rfl hq
  refine wl_batch 1 3 [] [1,2,3,24,25,26] (fS [1,2,3,24,25,26] [vP b6,vP b9,vK g64 8,vK g82 4,vI 4,vI 0]) [] H85 (by decide) (by kernel_rfl) trivial fun _ _ H87 hb => ?_
  replace hS:=hS.below hb
  apply wl_end rfl
  apply w_block
  refine w_loop (fun kk a' w' => ∃ (v88 : List TProp) (v90 : Int) (g89 : Gh),props_Table_L1 m  kk v88 v90 = some _ ∧ Fr 57 (fS [1,2,24,25,3,26] [vP b6,vP b9,vK g82 4,vI 4,vL g89 v88,vI v90]) a' ∧ SH M X w [eO 9 tS kL6 g82,eO 77 tyProp v88 g89,eB b9 [vU 2,vN,vI 0,vU 0,vU 0,vU 0,vU 0],eB b6 (cV y3),gE0] w') ⟨_,([y17,y22,y27,y32,y37,y42,y48,y54] : List TProp),0,g64,hm,FrG.keep (ks:=[1,2,24,25,3,26]) H87 (by kernel_rfl),hS⟩ ?_
  clear hm H87 hS
  rintro kk _ _ ⟨v88,v90,g89,hm,H,hS⟩
  cases kk with
  | zero => exact noneE hm
  | succ kk =>
   rw [props_Table_L1] at hm
   refine s_reg [] [1,2,3,24,25,26,27] (fS [1,2,3,24,25,26,27] [vP b6,vP b9,vL g89 v88,vK g82 4,vI 4,vI v90,vB (decide (v90 < 4))]) [] H (by kernel_rfl) trivial fun _ _ H92 hb => ?_
   replace hS:=hS.below hb
   apply w_seq
   refine w_if H92 rfl (fun hc => ?_) (fun hc => ?c121)
   case c121 =>
    replace hm:=bF hc hm
    apply w_exit rfl
    obtain rfl:=someE hm
    replace hS : SH M X w [eO 77 tyProp v88 g89,eB b9 [vU 2,vN,vI 0,vU 0,vU 0,vU 0,vU 0],eB b6 (cV y3),gE0] _:=hS.sel [1,2,3,4] rfl
    exact ⟨g89,FrG.keep (ks:=[1,3]) H92 (by kernel_rfl),hS⟩
   replace hm:=bT hc hm
   apply w_skip
   apply w_seq
   apply w_block
   obtain ⟨ho93,hm⟩:=chkE hm
   obtain ⟨x94,hx94,hm⟩:=letE hm
   refine s_reg [(vS (gi kL6 v90))] [1,2,3,5,24,25,26] (fS [1,2,3,5,24,25,26] [vP b6,vP b9,vL g89 v88,vS x94,vK g82 4,vI 4,vI v90]) [fun _ => oka g82.a ∧ 0 ≤ v90 ∧ v90 < ln kL6,fun wz => V.at1 ⟨ab g82.a,ao g82.a + (v90).toNat * 1,none⟩ (vS (gi kL6 v90)) wz] H92 (by subst hx94; kernel_rfl) ⟨((hS.osl 0 rfl).oki ho93),((hS.osl 0 rfl).at1 ho93 0 rfl),trivial⟩ fun _ _ H96 hb => ?_
   replace hS:=hS.below hb
   apply wl_start
   obtain ⟨ho97,hm⟩:=chkE hm
   refine wl_batch 0 4 [(vG [vU 2,vN,vI 0,vU 0,vU 0,vU 0,vU 0])] [1,2,24,25,26,30,32,33] (fS [1,2,24,25,26,30,32,33] [vP b6,vP b9,vK g82 4,vI 4,vI v90,vL g89 v88,vS ([109,97,114,103,105,110,45] ++ x94),vG [vU 2,vN,vI 0,vU 0,vU 0,vU 0,vU 0]]) [fun _ => ln [109,97,114,103,105,110,45] + ln x94 ≤ 9223372036854775807,rN b9 0 [vU 2,vN,vI 0,vU 0,vU 0,vU 0,vU 0]] H96 (by decide) (by kernel_rfl) ⟨ho97,((hS.bk 2 rfl).atD rfl),trivial⟩ fun _ _ H99 hb => ?_
   replace hS:=hS.below hb
   replace hS : SH M X w [eO 5 (tI .u8) ([] : List Int) (.nil),eO 9 tS kL6 g82,eO 77 tyProp v88 g89,eB b9 [vU 2,vN,vI 0,vU 0,vU 0,vU 0,vU 0],eB b6 (cV y3),gE0] _:=hS.addNil 5 (tI .u8)
   replace hS : SH M X w [eI (tI .u8) ([] : List Int) (.nil),eO 9 tS kL6 g82,eO 77 tyProp v88 g89,eB b9 [vU 2,vN,vI 0,vU 0,vU 0,vU 0,vU 0],eB b6 (cV y3),gE0] _:=SH.frz1 (hS.sel [0,1,2,3,4,5] rfl)
   obtain ⟨y101,hy101,hm⟩:=bindE hm
   have hd:=hS.hand [0,5] [0,1,2,3,4,5] rfl rfl
   refine m_stp [34,1,2,24,25,26,30] (fS [1,2,24,25,26,30] [vP b6,vP b9,vK g82 4,vI 4,vI v90,vL g89 v88]) H99 rfl rfl rfl rfl (o_callx H99 rfl rfl (props_length_ok (g_more:=Gh.nil) m _ _ _ _ _ _ _ hy101 _ _ hd)) (fun _ => rfl) fun _ _ v H107 hq => ?_
   obtain ⟨g102,g104,rfl,hq⟩:=hq
   replace hS : SH M X w [eO 9 tS y101.Words g102,eO 5 (tI .u8) y101.Kinds g104,eI (tI .u8) ([] : List Int) (.nil),eO 9 tS kL6 g82,eO 77 tyProp v88 g89,eB b9 [vU 2,vN,vI 0,vU 0,vU 0,vU 0,vU 0],eB b6 (cV y3),gE0] _:=hS.join [0,5] [0,1,2,3,4,5] rfl rfl hq
   replace hS : SH M X w [eI tS y101.Words g102,eO 5 (tI .u8) y101.Kinds g104,eI (tI .u8) ([] : List Int) (.nil),eO 9 tS kL6 g82,eO 77 tyProp v88 g89,eB b9 [vU 2,vN,vI 0,vU 0,vU 0,vU 0,vU 0],eB b6 (cV y3),gE0] _:=SH.frz1 (hS.sel [0,1,2,3,4,5,6,7] rfl)
   replace hS : SH M X w [eI (tI .u8) y101.Kinds g104,eI tS y101.Words g102,eI (tI .u8) ([] : List Int) (.nil),eO 9 tS kL6 g82,eO 77 tyProp v88 g89,eB b9 [vU 2,vN,vI 0,vU 0,vU 0,vU 0,vU 0],eB b6 (cV y3),gE0] _:=SH.frz1 (hS.sel [1,0,2,3,4,5,6,7] rfl)
   have hd:=hS.hand [1,0] [0,1,2,3,4,5,6,7] rfl rfl
   refine m_stp [35,1,2,24,25,26,30] (fS [1,2,24,25,26,30] [vP b6,vP b9,vK g82 4,vI 4,vI v90,vL g89 v88]) H107 rfl rfl rfl rfl (o_lit (T:=tyProp) (E:=77) (zv:=vG [vN,vF,vU 0,vN,vI 0,vU 0,vU 0,vU 0,vU 0,vO,vO,vF]) [vS y101.Name,vB y101.Inherited,vU y101.Initial.Kind,vS y101.Initial.Word,vI y101.Initial.Num,vU y101.Initial.Color.Red,vU y101.Initial.Color.Green,vU y101.Initial.Color.Blue,vU y101.Initial.Color.Alpha,vL g102 y101.Words,vL g104 y101.Kinds,vB y101.Least] ([y101] : List TProp) [gL [g102,g104]] _ H107 hd rfl (by kernel_rfl) (by kernel_rfl) (by kernel_rfl) (by kernel_rfl) (by kernel_rfl) (by kernel_rfl) (by kernel_rfl) rfl (InnL.cons (tyProp_mk (hd.im 0 rfl) (hd.im 1 rfl)) InnL.nil)) (fun _ => rfl) fun _ _ v H111 hq => ?_
   obtain ⟨g108,rfl,hq⟩:=hq
   replace hS : SH M X w [eO 77 tyProp ([y101] : List TProp) g108,eI (tI .u8) y101.Kinds g104,eI tS y101.Words g102,eI (tI .u8) ([] : List Int) (.nil),eO 9 tS kL6 g82,eO 77 tyProp v88 g89,eB b9 [vU 2,vN,vI 0,vU 0,vU 0,vU 0,vU 0],eB b6 (cV y3),gE0] _:=hS.join [1,0] [0,1,2,3,4,5,6,7] rfl rfl hq
   obtain ⟨ho112,hm⟩:=chkE hm
   obtain ⟨q113,hq113,hm⟩:=letE hm
   have hd:=hS.hand [5,0] [1,2,3,4,6,7,8] rfl rfl
   refine m_stp [36,1,2,24,25,26] (fS [1,2,24,25,26] [vP b6,vP b9,vK g82 4,vI 4,vI v90]) H111 rfl rfl rfl rfl (o_app2 (T:=tyProp) (zv:=vG [vN,vF,vU 0,vN,vI 0,vU 0,vU 0,vU 0,vU 0,vO,vO,vF]) (g1:=g89) (g2:=g108) (l1:=v88) (l2:=([y101] : List TProp)) q113 hq113.symm H111 hd rfl rfl rfl rfl rfl rfl rfl (by kernel_rfl) (by kernel_rfl) rfl rfl ho112) (fun _ => rfl) fun _ _ v H115 hq => ?_
   obtain ⟨g116,rfl,hq⟩:=hq
   replace hS : SH M X w [eO 77 tyProp q113 g116,eO 77 tyProp ([y101] : List TProp) g108,eI (tI .u8) y101.Kinds g104,eI tS y101.Words g102,eI (tI .u8) ([] : List Int) (.nil),eO 9 tS kL6 g82,eB b9 [vU 2,vN,vI 0,vU 0,vU 0,vU 0,vU 0],eB b6 (cV y3),gE0] _:=hS.join [5,0] [1,2,3,4,6,7,8] rfl rfl hq
   refine wl_batch 7 8 [] [1,2,3,24,25,26] (fS [1,2,3,24,25,26] [vP b6,vP b9,vL g116 q113,vK g82 4,vI 4,vI v90]) [] H115 (by decide) (by kernel_rfl) trivial fun _ _ H118 hb => ?_
   replace hS:=hS.below hb
   apply wl_end rfl
   replace hS : SH M X w [eO 77 tyProp q113 g116,eO 9 tS kL6 g82,eB b9 [vU 2,vN,vI 0,vU 0,vU 0,vU 0,vU 0],eB b6 (cV y3),gE0] _:=hS.sel [0,5,6,7,8] rfl
   refine w_reg [] [1,2,3,24,25,26] (fS [1,2,3,24,25,26] [vP b6,vP b9,vL g116 q113,vK g82 4,vI 4,vI (w64 (v90 + 1))]) [] H118 (by kernel_rfl) trivial fun _ _ H120 hb => ?_
   replace hS:=hS.below hb
   replace hS : SH M X w [eO 9 tS kL6 g82,eO 77 tyProp q113 g116,eB b9 [vU 2,vN,vI 0,vU 0,vU 0,vU 0,vU 0],eB b6 (cV y3),gE0] _:=hS.sel [1,0,2,3,4] rfl
   exact ⟨_,Nat.lt_succ_self _,q113,w64 (v90 + 1),g116,hm,FrG.keep (ks:=[1,2,24,25,3,26]) H120 (by kernel_rfl),hS⟩
 ·rintro _ _ ⟨g123,H,hS⟩
  replace hS : SH M X w [eO 77 tyProp z81 g123,eB b6 (cV y3),gE0] _:=hS.sel [0,2,3] rfl
  obtain ⟨y126,hy126,hm⟩:=bindE hm
  obtain ⟨y131,hy131,hm⟩:=letE hm
  obtain ⟨y134,hy134,hm⟩:=bindE hm
  obtain ⟨y139,hy139,hm⟩:=bindE hm
  obtain ⟨ho154,hm⟩:=chkE hm
  obtain ⟨q155,hq155,hm⟩:=letE hm
  refine s_drawS (base:=(fS [1,3] [vP b6,vL g123 z81])) (L:=[eO 77 tyProp z81 g123,eB b6 (cV y3),gE0]) 20 3 (fun yg124 => [vL g123 z81,vG [vU 2,vN,vI 16000,vU 0,vU 0,vU 0,vU 0],vG [vS y126.Name,vB y126.Inherited,vU y126.Initial.Kind,vS y126.Initial.Word,vI y126.Initial.Num,vU y126.Initial.Color.Red,vU y126.Initial.Color.Green,vU y126.Initial.Color.Blue,vU y126.Initial.Color.Alpha,.slice (yg124 2 0).a y126.Words.length (yg124 2 0).c,.slice (yg124 2 1).a y126.Kinds.length (yg124 2 1).c,vB y126.Least],vG (cV y131),vK (yg124 4 0) 1,vG [vS y134.Name,vB y134.Inherited,vU y134.Initial.Kind,vS y134.Initial.Word,vI y134.Initial.Num,vU y134.Initial.Color.Red,vU y134.Initial.Color.Green,vU y134.Initial.Color.Blue,vU y134.Initial.Color.Alpha,.slice (yg124 5 0).a y134.Words.length (yg124 5 0).c,.slice (yg124 5 1).a y134.Kinds.length (yg124 5 1).c,vB y134.Least],vG [vS y139.Name,vB y139.Inherited,vU y139.Initial.Kind,vS y139.Initial.Word,vI y139.Initial.Num,vU y139.Initial.Color.Red,vU y139.Initial.Color.Green,vU y139.Initial.Color.Blue,vU y139.Initial.Color.Alpha,.slice (yg124 6 0).a y139.Words.length (yg124 6 0).c,.slice (yg124 6 1).a y139.Kinds.length (yg124 6 1).c,vB y139.Least],vG [vU 5,vN,vI 1000,vU 0,vU 0,vU 0,vU 0],vK (yg124 8 0) 1,vG [vS [111,112,97,99,105,116,121],vF,vU 5,vN,vI 1000,vU 0,vU 0,vU 0,vU 0,vO,vK (yg124 8 0) 1,vF],vG (cV y3),vK (yg124 11 0) 1,vK (yg124 12 0) 1,vG [vS [122,45,105,110,100,101,120],vF,vU y3.Kind,vS y3.Word,vI y3.Num,vU y3.Color.Red,vU y3.Color.Green,vU y3.Color.Blue,vU y3.Color.Alpha,vK (yg124 11 0) 1,vK (yg124 12 0) 1,vF],vG [vU 6,vN,vI 0,vU 0,vU 0,vU 0,vU 0],vK (yg124 15 0) 1,vG [vS [111,114,100,101,114],vF,vU 6,vN,vI 0,vU 0,vU 0,vU 0,vU 0,vO,vK (yg124 15 0) 1,vF],vK (yg124 17 0) 6,.slice (yg124 18 0).a q155.length (yg124 18 0).c,.slice (yg124 18 0).a q155.length (yg124 18 0).c]) (fun yg124 => [[],[],[eO 9 tS y126.Words (yg124 2 0),eO 5 (tI .u8) y126.Kinds (yg124 2 1),eI (tI .u8) ([] : List Int) (.nil)],[],[eO 5 (tI .u8) ([5] : List Int) (yg124 4 0)],[eO 9 tS y134.Words (yg124 5 0),eO 5 (tI .u8) y134.Kinds (yg124 5 1),eI (tI .u8) ([5] : List Int) (yg124 4 0)],[eO 9 tS y139.Words (yg124 6 0),eO 5 (tI .u8) y139.Kinds (yg124 6 1)],[],[eO 5 (tI .u8) ([5] : List Int) (yg124 8 0)],[],[],[eO 9 tS kL0 (yg124 11 0)],[eO 5 (tI .u8) ([6] : List Int) (yg124 12 0)],[],[],[eO 5 (tI .u8) ([6] : List Int) (yg124 15 0)],[],[eO 77 tyProp ([y126,y134,y139,(TProp.mk [111,112,97,99,105,116,121] false (TVal.mk 5 [] 1000 (TColor.mk 0 0 0 0)) [] ([5] : List Int) false),(TProp.mk [122,45,105,110,100,101,120] false y3 kL0 ([6] : List Int) false),(TProp.mk [111,114,100,101,114] false (TVal.mk 6 [] 0 (TColor.mk 0 0 0 0)) [] ([6] : List Int) false)] : List TProp) (yg124 17 0),eI (tI .u8) ([6] : List Int) (yg124 15 0),eI (tI .u8) ([6] : List Int) (yg124 12 0),eI tS kL0 (yg124 11 0),eI (tI .u8) ([5] : List Int) (yg124 8 0),eI (tI .u8) y139.Kinds (yg124 6 1),eI tS y139.Words (yg124 6 0),eI (tI .u8) y134.Kinds (yg124 5 1),eI tS y134.Words (yg124 5 0),eI (tI .u8) y126.Kinds (yg124 2 1),eI tS y126.Words (yg124 2 0),eI (tI .u8) ([] : List Int) (.nil),eI (tI .u8) ([5] : List Int) (yg124 4 0)],[eO 77 tyProp q155 (yg124 18 0)],[]]) [[],[],[22],[],[],[4,22],[22],[],[],[8],[21],[],[],[11,12],[],[],[15],[2,5,6,8,11,12,15],[17,20],[18]] [[],[],[],[],[],[4],[],[],[],[],[],[],[],[],[],[],[],[2,5,6,8,11,12,15],[20],[]] [[0],[1],[1,2],[3],[4],[3,4,5],[6],[7],[8],[7,8,9],[10],[11],[12],[10,11,12,13],[14],[15],[14,15,16],[1,2,3,4,5,6,7,8,9,10,11,12,13,14,15,16,17],[0,1,2,3,4,5,6,7,8,9,10,11,12,13,14,15,16,17,18],[0,1,2,3,4,5,6,7,8,9,10,11,12,13,14,15,16,17,18,19]] [] (FrG.keep (ks:=[1,3]) H (by kernel_rfl)) (fun _ _ h => by cases h) (by kernel_rfl) hS (by kernel_rfl) rfl rfl (by kernel_rfl) (by kernel_rfl) (by kernel_rfl) (gd_none (by kernel_rfl) _ _) ?hloc_yg124 ?hstep_yg124 fun _ _ yg124 H158 hv hS => ?hK_yg124
  case hloc_yg124 => exact ⟨(fun _ _ _ _ => ⟨rfl,rfl⟩),(fun _ _ _ _ => ⟨rfl,rfl⟩),(fun _ i g hi => lcG [2] (fun yg124 => (vG [vS y126.Name,vB y126.Inherited,vU y126.Initial.Kind,vS y126.Initial.Word,vI y126.Initial.Num,vU y126.Initial.Color.Red,vU y126.Initial.Color.Green,vU y126.Initial.Color.Blue,vU y126.Initial.Color.Alpha,.slice (yg124 2 0).a y126.Words.length (yg124 2 0).c,.slice (yg124 2 1).a y126.Kinds.length (yg124 2 1).c,vB y126.Least],[eO 9 tS y126.Words (yg124 2 0),eO 5 (tI .u8) y126.Kinds (yg124 2 1),eI (tI .u8) ([] : List Int) (.nil)])) hi rfl),(fun _ _ _ _ => ⟨rfl,rfl⟩),(fun _ i g hi => lcG [4] (fun yg124 => (vK (yg124 4 0) 1,[eO 5 (tI .u8) ([5] : List Int) (yg124 4 0)])) hi rfl),(fun _ i g hi => lcG [4,5] (fun yg124 => (vG [vS y134.Name,vB y134.Inherited,vU y134.Initial.Kind,vS y134.Initial.Word,vI y134.Initial.Num,vU y134.Initial.Color.Red,vU y134.Initial.Color.Green,vU y134.Initial.Color.Blue,vU y134.Initial.Color.Alpha,.slice (yg124 5 0).a y134.Words.length (yg124 5 0).c,.slice (yg124 5 1).a y134.Kinds.length (yg124 5 1).c,vB y134.Least],[eO 9 tS y134.Words (yg124 5 0),eO 5 (tI .u8) y134.Kinds (yg124 5 1),eI (tI .u8) ([5] : List Int) (yg124 4 0)])) hi rfl),(fun _ i g hi => lcG [6] (fun yg124 => (vG [vS y139.Name,vB y139.Inherited,vU y139.Initial.Kind,vS y139.Initial.Word,vI y139.Initial.Num,vU y139.Initial.Color.Red,vU y139.Initial.Color.Green,vU y139.Initial.Color.Blue,vU y139.Initial.Color.Alpha,.slice (yg124 6 0).a y139.Words.length (yg124 6 0).c,.slice (yg124 6 1).a y139.Kinds.length (yg124 6 1).c,vB y139.Least],[eO 9 tS y139.Words (yg124 6 0),eO 5 (tI .u8) y139.Kinds (yg124 6 1)])) hi rfl),(fun _ _ _ _ => ⟨rfl,rfl⟩),(fun _ i g hi => lcG [8] (fun yg124 => (vK (yg124 8 0) 1,[eO 5 (tI .u8) ([5] : List Int) (yg124 8 0)])) hi rfl),(fun _ i g hi => lcG [8] (fun yg124 => (vG [vS [111,112,97,99,105,116,121],vF,vU 5,vN,vI 1000,vU 0,vU 0,vU 0,vU 0,vO,vK (yg124 8 0) 1,vF],[])) hi rfl),(fun _ _ _ _ => ⟨rfl,rfl⟩),(fun _ i g hi => lcG [11] (fun yg124 => (vK (yg124 11 0) 1,[eO 9 tS kL0 (yg124 11 0)])) hi rfl),(fun _ i g hi => lcG [12] (fun yg124 => (vK (yg124 12 0) 1,[eO 5 (tI .u8) ([6] : List Int) (yg124 12 0)])) hi rfl),(fun _ i g hi => lcG [11,12] (fun yg124 => (vG [vS [122,45,105,110,100,101,120],vF,vU y3.Kind,vS y3.Word,vI y3.Num,vU y3.Color.Red,vU y3.Color.Green,vU y3.Color.Blue,vU y3.Color.Alpha,vK (yg124 11 0) 1,vK (yg124 12 0) 1,vF],[])) hi rfl),(fun _ _ _ _ => ⟨rfl,rfl⟩),(fun _ i g hi => lcG [15] (fun yg124 => (vK (yg124 15 0) 1,[eO 5 (tI .u8) ([6] : List Int) (yg124 15 0)])) hi rfl),(fun _ i g hi => lcG [15] (fun yg124 => (vG [vS [111,114,100,101,114],vF,vU 6,vN,vI 0,vU 0,vU 0,vU 0,vU 0,vO,vK (yg124 15 0) 1,vF],[])) hi rfl),(fun _ i g hi => lcG [2,4,5,6,8,11,12,15,17] (fun yg124 => (vK (yg124 17 0) 6,[eO 77 tyProp ([y126,y134,y139,(TProp.mk [111,112,97,99,105,116,121] false (TVal.mk 5 [] 1000 (TColor.mk 0 0 0 0)) [] ([5] : List Int) false),(TProp.mk [122,45,105,110,100,101,120] false y3 kL0 ([6] : List Int) false),(TProp.mk [111,114,100,101,114] false (TVal.mk 6 [] 0 (TColor.mk 0 0 0 0)) [] ([6] : List Int) false)] : List TProp) (yg124 17 0),eI (tI .u8) ([6] : List Int) (yg124 15 0),eI (tI .u8) ([6] : List Int) (yg124 12 0),eI tS kL0 (yg124 11 0),eI (tI .u8) ([5] : List Int) (yg124 8 0),eI (tI .u8) y139.Kinds (yg124 6 1),eI tS y139.Words (yg124 6 0),eI (tI .u8) y134.Kinds (yg124 5 1),eI tS y134.Words (yg124 5 0),eI (tI .u8) y126.Kinds (yg124 2 1),eI tS y126.Words (yg124 2 0),eI (tI .u8) ([] : List Int) (.nil),eI (tI .u8) ([5] : List Int) (yg124 4 0)])) hi rfl),(fun _ i g hi => lcG [18] (fun yg124 => (.slice (yg124 18 0).a q155.length (yg124 18 0).c,[eO 77 tyProp q155 (yg124 18 0)])) hi rfl),(fun _ i g hi => lcG [18] (fun yg124 => (.slice (yg124 18 0).a q155.length (yg124 18 0).c,[])) hi rfl),trivial⟩
  case hstep_yg124 =>
   refine ⟨?_,?_,?_,?_,?_,?_,?_,?_,?_,?_,?_,?_,?_,?_,?_,?_,?_,?_,?_,?_,trivial⟩
   ·intro o ho a w yg124 M Hb hv hO hS
    obtain rfl:=someE ho
    exact Stp.mono (o_evs [] (vL g123 z81) none [] Hb rfl (by kernel_rfl) (fun q e => by cases e)) fun _ _ hq => ⟨gL [],fun _ _ => hq.1,(hS.below hq.2.below).sel [] rfl⟩
   ·intro o ho a w yg124 M Hb hv hO hS
    obtain rfl:=someE ho
    exact Stp.mono (o_evs [] (vG [vU 2,vN,vI 16000,vU 0,vU 0,vU 0,vU 0]) none [] Hb rfl (by kernel_rfl) (fun q e => by cases e)) fun _ _ hq => ⟨gL [],fun _ _ => hq.1,(hS.below hq.2.below).sel [] rfl⟩
   ·intro o ho a w yg124 M Hb hv hO hS0
    obtain rfl:=someE ho
    have H : Fr 57 ([(39,[],vG [vU 2,vN,vI 16000,vU 0,vU 0,vU 0,vU 0])] ++ (fS [1,3] [vP b6,vL g123 z81])) _:=(Hb).add (hv 1 (by decide) (by decide) 39 rfl)
    obtain ⟨X,hX⟩ : ∃ X,X = fpl [gE0]:=⟨_,rfl⟩
    have hS : SH M X w [gE0] w:=by rw [hX]; exact hS0
    replace hS : SH M X w [eO 5 (tI .u8) ([] : List Int) (.nil),gE0] _:=hS.addNil 5 (tI .u8)
    replace hS : SH M X w [eI (tI .u8) ([] : List Int) (.nil),gE0] _:=SH.frz1 (hS.sel [0,1] rfl)
    have hd:=hS.hand [0,1] [0,1] rfl rfl
    refine Stp.mono (o_callx H rfl rfl (props_length_ok (g_more:=Gh.nil) m _ _ _ _ _ _ _ hy126 _ _ hd)) ?_
    rintro v w2 hq
    obtain ⟨g127,g129,rfl,hq⟩:=hq
    replace hS : SH M X w [eO 9 tS y126.Words g127,eO 5 (tI .u8) y126.Kinds g129,eI (tI .u8) ([] : List Int) (.nil),gE0] _:=hS.join [0,1] [0,1] rfl rfl hq
    rw [hX] at hS
    exact ⟨gL [g127,g129],fun _ _ => rfl,hS.sel [0,1,2,3] rfl⟩
   ·intro o ho a w yg124 M Hb hv hO hS
    obtain rfl:=someE ho
    exact Stp.mono (o_evs [(vG (cV y131))] (vG (cV y131)) (some (rB 57 [vS [110,111,114,109,97,108]] (vG (cV y131)))) [] Hb rfl (by subst hy131; kernel_rfl) (fun q e => by cases e; exact ((by rw [hy131]; exact (props_word_ok _).b)))) fun _ _ hq => ⟨gL [],fun _ _ => hq.1,(hS.below hq.2.below).sel [] rfl⟩
   ·intro o ho a w yg124 M Hb hv hO hS0
    obtain rfl:=someE ho
    have H : Fr 57 ([] ++ (fS [1,3] [vP b6,vL g123 z81])) _:=Hb
    obtain ⟨X,hX⟩ : ∃ X,X = fpl []:=⟨_,rfl⟩
    have hS : SH M X w [] w:=by rw [hX]; exact hS0
    have hd:=hS.hand [] [] rfl rfl
    refine Stp.mono (o_lit (T:=(tI .u8)) (E:=5) (zv:=vU 0) [vU 5] ([5] : List Int) [gL []] _ H hd rfl (by kernel_rfl) (by kernel_rfl) (by kernel_rfl) (by kernel_rfl) (by kernel_rfl) (by kernel_rfl) (by kernel_rfl) rfl (InnL.cons trivial InnL.nil)) ?_
    rintro v w2 hq
    obtain ⟨g132,rfl,hq⟩:=hq
    replace hS : SH M X w [eO 5 (tI .u8) ([5] : List Int) g132] _:=hS.join [] [] rfl rfl hq
    rw [hX] at hS
    exact ⟨gL [g132],fun _ _ => rfl,hS.sel [0] rfl⟩
   ·intro o ho a w yg124 M Hb hv hO hS0
    obtain rfl:=someE ho
    have H : Fr 57 ((fS [42,41] [vK (yg124 4 0) 1,vG (cV y131)]) ++ (fS [1,3] [vP b6,vL g123 z81])) _:=((Hb).add (hv 3 (by decide) (by decide) 41 rfl)).add (hv 4 (by decide) (by decide) 42 rfl)
    obtain ⟨X,hX⟩ : ∃ X,X = fpl [eO 5 (tI .u8) ([5] : List Int) (yg124 4 0),gE0]:=⟨_,rfl⟩
    have hS : SH M X w [eO 5 (tI .u8) ([5] : List Int) (yg124 4 0),gE0] w:=by rw [hX]; exact hS0
    replace hS : SH M X w [eI (tI .u8) ([5] : List Int) (yg124 4 0),gE0] _:=SH.frz1 (hS.sel [0,1] rfl)
    have hd:=hS.hand [0,1] [0,1] rfl rfl
    refine Stp.mono (o_callx H rfl rfl (props_length_ok (g_more:=(yg124 4 0)) m _ _ _ _ _ _ _ hy134 _ _ hd)) ?_
    rintro v w2 hq
    obtain ⟨g135,g137,rfl,hq⟩:=hq
    replace hS : SH M X w [eO 9 tS y134.Words g135,eO 5 (tI .u8) y134.Kinds g137,eI (tI .u8) ([5] : List Int) (yg124 4 0),gE0] _:=hS.join [0,1] [0,1] rfl rfl hq
    rw [hX] at hS
    exact ⟨gL [g135,g137],fun _ _ => rfl,hS.sel [0,1,2,3] rfl⟩
   ·intro o ho a w yg124 M Hb hv hO hS0
    obtain rfl:=someE ho
    have H : Fr 57 ([] ++ (fS [1,3] [vP b6,vL g123 z81])) _:=Hb
    obtain ⟨X,hX⟩ : ∃ X,X = fpl [gE0]:=⟨_,rfl⟩
    have hS : SH M X w [gE0] w:=by rw [hX]; exact hS0
    have hd:=hS.hand [0] [0] rfl rfl
    refine Stp.mono (o_callx H rfl rfl (props_words_ok m _ _ _ _ _ hy139 _ _ hd)) ?_
    rintro v w2 hq
    obtain ⟨g140,g142,rfl,hq⟩:=hq
    replace hS : SH M X w [eO 9 tS y139.Words g140,eO 5 (tI .u8) y139.Kinds g142,gE0] _:=hS.join [0] [0] rfl rfl hq
    rw [hX] at hS
    exact ⟨gL [g140,g142],fun _ _ => rfl,hS.sel [0,1,2] rfl⟩
   ·intro o ho a w yg124 M Hb hv hO hS
    obtain rfl:=someE ho
    exact Stp.mono (o_evs [] (vG [vU 5,vN,vI 1000,vU 0,vU 0,vU 0,vU 0]) none [] Hb rfl (by kernel_rfl) (fun q e => by cases e)) fun _ _ hq => ⟨gL [],fun _ _ => hq.1,(hS.below hq.2.below).sel [] rfl⟩
   ·intro o ho a w yg124 M Hb hv hO hS0
    obtain rfl:=someE ho
    have H : Fr 57 ([] ++ (fS [1,3] [vP b6,vL g123 z81])) _:=Hb
    obtain ⟨X,hX⟩ : ∃ X,X = fpl []:=⟨_,rfl⟩
    have hS : SH M X w [] w:=by rw [hX]; exact hS0
    have hd:=hS.hand [] [] rfl rfl
    refine Stp.mono (o_lit (T:=(tI .u8)) (E:=5) (zv:=vU 0) [vU 5] ([5] : List Int) [gL []] _ H hd rfl (by kernel_rfl) (by kernel_rfl) (by kernel_rfl) (by kernel_rfl) (by kernel_rfl) (by kernel_rfl) (by kernel_rfl) rfl (InnL.cons trivial InnL.nil)) ?_
    rintro v w2 hq
    obtain ⟨g144,rfl,hq⟩:=hq
    replace hS : SH M X w [eO 5 (tI .u8) ([5] : List Int) g144] _:=hS.join [] [] rfl rfl hq
    rw [hX] at hS
    exact ⟨gL [g144],fun _ _ => rfl,hS.sel [0] rfl⟩
   ·intro o ho a w yg124 M Hb hv hO hS
    obtain rfl:=someE ho
    exact Stp.mono (o_evs [] (vG [vS [111,112,97,99,105,116,121],vF,vU 5,vN,vI 1000,vU 0,vU 0,vU 0,vU 0,vO,vK (yg124 8 0) 1,vF]) none [] (((Hb).add (hv 7 (by decide) (by decide) 45 rfl)).add (hv 8 (by decide) (by decide) 46 rfl)) rfl (by kernel_rfl) (fun q e => by cases e)) fun _ _ hq => ⟨gL [],fun _ _ => hq.1,(hS.below hq.2.below).sel [0] rfl⟩
   ·intro o ho a w yg124 M Hb hv hO hS
    obtain rfl:=someE ho
    exact Stp.mono (o_evs [(vG (cV y3))] (vG (cV y3)) (some (rN b6 0 (cV y3))) [] Hb rfl (by kernel_rfl) (fun q e => by cases e; exact ((hS.bk 0 rfl).atD rfl))) fun _ _ hq => ⟨gL [],fun _ _ => hq.1,(hS.below hq.2.below).sel [0] rfl⟩
   ·intro o ho a w yg124 M Hb hv hO hS0
    obtain rfl:=someE ho
    have H : Fr 57 ([] ++ (fS [1,3] [vP b6,vL g123 z81])) _:=Hb
    obtain ⟨X,hX⟩ : ∃ X,X = fpl []:=⟨_,rfl⟩
    have hS : SH M X w [] w:=by rw [hX]; exact hS0
    have hd:=hS.hand [] [] rfl rfl
    refine Stp.mono (o_lit (T:=tS) (E:=9) (zv:=vN) [vS [97,117,116,111]] kL0 [gL []] _ H hd rfl (by kernel_rfl) (by kernel_rfl) (by kernel_rfl) (by kernel_rfl) (by kernel_rfl) (by kernel_rfl) (by kernel_rfl) rfl (InnL.cons trivial InnL.nil)) ?_
    rintro v w2 hq
    obtain ⟨g146,rfl,hq⟩:=hq
    replace hS : SH M X w [eO 9 tS kL0 g146] _:=hS.join [] [] rfl rfl hq
    rw [hX] at hS
    exact ⟨gL [g146],fun _ _ => rfl,hS.sel [0] rfl⟩
   ·intro o ho a w yg124 M Hb hv hO hS0
    obtain rfl:=someE ho
    have H : Fr 57 ([] ++ (fS [1,3] [vP b6,vL g123 z81])) _:=Hb
    obtain ⟨X,hX⟩ : ∃ X,X = fpl []:=⟨_,rfl⟩
    have hS : SH M X w [] w:=by rw [hX]; exact hS0
    have hd:=hS.hand [] [] rfl rfl
    refine Stp.mono (o_lit (T:=(tI .u8)) (E:=5) (zv:=vU 0) [vU 6] ([6] : List Int) [gL []] _ H hd rfl (by kernel_rfl) (by kernel_rfl) (by kernel_rfl) (by kernel_rfl) (by kernel_rfl) (by kernel_rfl) (by kernel_rfl) rfl (InnL.cons trivial InnL.nil)) ?_
    rintro v w2 hq
    obtain ⟨g148,rfl,hq⟩:=hq
    replace hS : SH M X w [eO 5 (tI .u8) ([6] : List Int) g148] _:=hS.join [] [] rfl rfl hq
    rw [hX] at hS
    exact ⟨gL [g148],fun _ _ => rfl,hS.sel [0] rfl⟩
   ·intro o ho a w yg124 M Hb hv hO hS
    obtain rfl:=someE ho
    exact Stp.mono (o_evs [] (vG [vS [122,45,105,110,100,101,120],vF,vU y3.Kind,vS y3.Word,vI y3.Num,vU y3.Color.Red,vU y3.Color.Green,vU y3.Color.Blue,vU y3.Color.Alpha,vK (yg124 11 0) 1,vK (yg124 12 0) 1,vF]) none [] ((((Hb).add (hv 10 (by decide) (by decide) 48 rfl)).add (hv 11 (by decide) (by decide) 49 rfl)).add (hv 12 (by decide) (by decide) 50 rfl)) rfl (by kernel_rfl) (fun q e => by cases e)) fun _ _ hq => ⟨gL [],fun _ _ => hq.1,(hS.below hq.2.below).sel [0,1] rfl⟩
   ·intro o ho a w yg124 M Hb hv hO hS
    obtain rfl:=someE ho
    exact Stp.mono (o_evs [] (vG [vU 6,vN,vI 0,vU 0,vU 0,vU 0,vU 0]) none [] Hb rfl (by kernel_rfl) (fun q e => by cases e)) fun _ _ hq => ⟨gL [],fun _ _ => hq.1,(hS.below hq.2.below).sel [] rfl⟩
   ·intro o ho a w yg124 M Hb hv hO hS0
    obtain rfl:=someE ho
    have H : Fr 57 ([] ++ (fS [1,3] [vP b6,vL g123 z81])) _:=Hb
    obtain ⟨X,hX⟩ : ∃ X,X = fpl []:=⟨_,rfl⟩
    have hS : SH M X w [] w:=by rw [hX]; exact hS0
    have hd:=hS.hand [] [] rfl rfl
    refine Stp.mono (o_lit (T:=(tI .u8)) (E:=5) (zv:=vU 0) [vU 6] ([6] : List Int) [gL []] _ H hd rfl (by kernel_rfl) (by kernel_rfl) (by kernel_rfl) (by kernel_rfl) (by kernel_rfl) (by kernel_rfl) (by kernel_rfl) rfl (InnL.cons trivial InnL.nil)) ?_
    rintro v w2 hq
    obtain ⟨g150,rfl,hq⟩:=hq
    replace hS : SH M X w [eO 5 (tI .u8) ([6] : List Int) g150] _:=hS.join [] [] rfl rfl hq
    rw [hX] at hS
    exact ⟨gL [g150],fun _ _ => rfl,hS.sel [0] rfl⟩
   ·intro o ho a w yg124 M Hb hv hO hS
    obtain rfl:=someE ho
    exact Stp.mono (o_evs [] (vG [vS [111,114,100,101,114],vF,vU 6,vN,vI 0,vU 0,vU 0,vU 0,vU 0,vO,vK (yg124 15 0) 1,vF]) none [] (((Hb).add (hv 14 (by decide) (by decide) 52 rfl)).add (hv 15 (by decide) (by decide) 53 rfl)) rfl (by kernel_rfl) (fun q e => by cases e)) fun _ _ hq => ⟨gL [],fun _ _ => hq.1,(hS.below hq.2.below).sel [0] rfl⟩
   ·intro o ho a w yg124 M Hb hv hO hS0
    obtain rfl:=someE ho
    have H : Fr 57 ((fS [54,51,47,44,43,40] [vG [vS [111,114,100,101,114],vF,vU 6,vN,vI 0,vU 0,vU 0,vU 0,vU 0,vO,vK (yg124 15 0) 1,vF],vG [vS [122,45,105,110,100,101,120],vF,vU y3.Kind,vS y3.Word,vI y3.Num,vU y3.Color.Red,vU y3.Color.Green,vU y3.Color.Blue,vU y3.Color.Alpha,vK (yg124 11 0) 1,vK (yg124 12 0) 1,vF],vG [vS [111,112,97,99,105,116,121],vF,vU 5,vN,vI 1000,vU 0,vU 0,vU 0,vU 0,vO,vK (yg124 8 0) 1,vF],vG [vS y139.Name,vB y139.Inherited,vU y139.Initial.Kind,vS y139.Initial.Word,vI y139.Initial.Num,vU y139.Initial.Color.Red,vU y139.Initial.Color.Green,vU y139.Initial.Color.Blue,vU y139.Initial.Color.Alpha,.slice (yg124 6 0).a y139.Words.length (yg124 6 0).c,.slice (yg124 6 1).a y139.Kinds.length (yg124 6 1).c,vB y139.Least],vG [vS y134.Name,vB y134.Inherited,vU y134.Initial.Kind,vS y134.Initial.Word,vI y134.Initial.Num,vU y134.Initial.Color.Red,vU y134.Initial.Color.Green,vU y134.Initial.Color.Blue,vU y134.Initial.Color.Alpha,.slice (yg124 5 0).a y134.Words.length (yg124 5 0).c,.slice (yg124 5 1).a y134.Kinds.length (yg124 5 1).c,vB y134.Least],vG [vS y126.Name,vB y126.Inherited,vU y126.Initial.Kind,vS y126.Initial.Word,vI y126.Initial.Num,vU y126.Initial.Color.Red,vU y126.Initial.Color.Green,vU y126.Initial.Color.Blue,vU y126.Initial.Color.Alpha,.slice (yg124 2 0).a y126.Words.length (yg124 2 0).c,.slice (yg124 2 1).a y126.Kinds.length (yg124 2 1).c,vB y126.Least]]) ++ (fS [1,3] [vP b6,vL g123 z81])) _:=((((((Hb).add (hv 2 (by decide) (by decide) 40 rfl)).add (hv 5 (by decide) (by decide) 43 rfl)).add (hv 6 (by decide) (by decide) 44 rfl)).add (hv 9 (by decide) (by decide) 47 rfl)).add (hv 13 (by decide) (by decide) 51 rfl)).add (hv 16 (by decide) (by decide) 54 rfl)
    obtain ⟨X,hX⟩ : ∃ X,X = fpl [eO 9 tS y126.Words (yg124 2 0),eO 5 (tI .u8) y126.Kinds (yg124 2 1),eI (tI .u8) ([] : List Int) (.nil),eO 9 tS y134.Words (yg124 5 0),eO 5 (tI .u8) y134.Kinds (yg124 5 1),eI (tI .u8) ([5] : List Int) (yg124 4 0),eO 9 tS y139.Words (yg124 6 0),eO 5 (tI .u8) y139.Kinds (yg124 6 1),eO 5 (tI .u8) ([5] : List Int) (yg124 8 0),eO 9 tS kL0 (yg124 11 0),eO 5 (tI .u8) ([6] : List Int) (yg124 12 0),eO 5 (tI .u8) ([6] : List Int) (yg124 15 0)]:=⟨_,rfl⟩
    have hS : SH M X w [eO 9 tS y126.Words (yg124 2 0),eO 5 (tI .u8) y126.Kinds (yg124 2 1),eI (tI .u8) ([] : List Int) (.nil),eO 9 tS y134.Words (yg124 5 0),eO 5 (tI .u8) y134.Kinds (yg124 5 1),eI (tI .u8) ([5] : List Int) (yg124 4 0),eO 9 tS y139.Words (yg124 6 0),eO 5 (tI .u8) y139.Kinds (yg124 6 1),eO 5 (tI .u8) ([5] : List Int) (yg124 8 0),eO 9 tS kL0 (yg124 11 0),eO 5 (tI .u8) ([6] : List Int) (yg124 12 0),eO 5 (tI .u8) ([6] : List Int) (yg124 15 0)] w:=by rw [hX]; exact hS0
    replace hS : SH M X w [eI tS y126.Words (yg124 2 0),eO 5 (tI .u8) y126.Kinds (yg124 2 1),eI (tI .u8) ([] : List Int) (.nil),eO 9 tS y134.Words (yg124 5 0),eO 5 (tI .u8) y134.Kinds (yg124 5 1),eI (tI .u8) ([5] : List Int) (yg124 4 0),eO 9 tS y139.Words (yg124 6 0),eO 5 (tI .u8) y139.Kinds (yg124 6 1),eO 5 (tI .u8) ([5] : List Int) (yg124 8 0),eO 9 tS kL0 (yg124 11 0),eO 5 (tI .u8) ([6] : List Int) (yg124 12 0),eO 5 (tI .u8) ([6] : List Int) (yg124 15 0)] _:=SH.frz1 (hS.sel [0,1,2,3,4,5,6,7,8,9,10,11] rfl)
    replace hS : SH M X w [eI (tI .u8) y126.Kinds (yg124 2 1),eI tS y126.Words (yg124 2 0),eI (tI .u8) ([] : List Int) (.nil),eO 9 tS y134.Words (yg124 5 0),eO 5 (tI .u8) y134.Kinds (yg124 5 1),eI (tI .u8) ([5] : List Int) (yg124 4 0),eO 9 tS y139.Words (yg124 6 0),eO 5 (tI .u8) y139.Kinds (yg124 6 1),eO 5 (tI .u8) ([5] : List Int) (yg124 8 0),eO 9 tS kL0 (yg124 11 0),eO 5 (tI .u8) ([6] : List Int) (yg124 12 0),eO 5 (tI .u8) ([6] : List Int) (yg124 15 0)] _:=SH.frz1 (hS.sel [1,0,2,3,4,5,6,7,8,9,10,11] rfl)
    replace hS : SH M X w [eI tS y134.Words (yg124 5 0),eI (tI .u8) y126.Kinds (yg124 2 1),eI tS y126.Words (yg124 2 0),eI (tI .u8) ([] : List Int) (.nil),eO 5 (tI .u8) y134.Kinds (yg124 5 1),eI (tI .u8) ([5] : List Int) (yg124 4 0),eO 9 tS y139.Words (yg124 6 0),eO 5 (tI .u8) y139.Kinds (yg124 6 1),eO 5 (tI .u8) ([5] : List Int) (yg124 8 0),eO 9 tS kL0 (yg124 11 0),eO 5 (tI .u8) ([6] : List Int) (yg124 12 0),eO 5 (tI .u8) ([6] : List Int) (yg124 15 0)] _:=SH.frz1 (hS.sel [3,0,1,2,4,5,6,7,8,9,10,11] rfl)
    replace hS : SH M X w [eI (tI .u8) y134.Kinds (yg124 5 1),eI tS y134.Words (yg124 5 0),eI (tI .u8) y126.Kinds (yg124 2 1),eI tS y126.Words (yg124 2 0),eI (tI .u8) ([] : List Int) (.nil),eI (tI .u8) ([5] : List Int) (yg124 4 0),eO 9 tS y139.Words (yg124 6 0),eO 5 (tI .u8) y139.Kinds (yg124 6 1),eO 5 (tI .u8) ([5] : List Int) (yg124 8 0),eO 9 tS kL0 (yg124 11 0),eO 5 (tI .u8) ([6] : List Int) (yg124 12 0),eO 5 (tI .u8) ([6] : List Int) (yg124 15 0)] _:=SH.frz1 (hS.sel [4,0,1,2,3,5,6,7,8,9,10,11] rfl)
    replace hS : SH M X w [eI tS y139.Words (yg124 6 0),eI (tI .u8) y134.Kinds (yg124 5 1),eI tS y134.Words (yg124 5 0),eI (tI .u8) y126.Kinds (yg124 2 1),eI tS y126.Words (yg124 2 0),eI (tI .u8) ([] : List Int) (.nil),eI (tI .u8) ([5] : List Int) (yg124 4 0),eO 5 (tI .u8) y139.Kinds (yg124 6 1),eO 5 (tI .u8) ([5] : List Int) (yg124 8 0),eO 9 tS kL0 (yg124 11 0),eO 5 (tI .u8) ([6] : List Int) (yg124 12 0),eO 5 (tI .u8) ([6] : List Int) (yg124 15 0)] _:=SH.frz1 (hS.sel [6,0,1,2,3,4,5,7,8,9,10,11] rfl)
    replace hS : SH M X w [eI (tI .u8) y139.Kinds (yg124 6 1),eI tS y139.Words (yg124 6 0),eI (tI .u8) y134.Kinds (yg124 5 1),eI tS y134.Words (yg124 5 0),eI (tI .u8) y126.Kinds (yg124 2 1),eI tS y126.Words (yg124 2 0),eI (tI .u8) ([] : List Int) (.nil),eI (tI .u8) ([5] : List Int) (yg124 4 0),eO 5 (tI .u8) ([5] : List Int) (yg124 8 0),eO 9 tS kL0 (yg124 11 0),eO 5 (tI .u8) ([6] : List Int) (yg124 12 0),eO 5 (tI .u8) ([6] : List Int) (yg124 15 0)] _:=SH.frz1 (hS.sel [7,0,1,2,3,4,5,6,8,9,10,11] rfl)
    replace hS : SH M X w [eI (tI .u8) ([5] : List Int) (yg124 8 0),eI (tI .u8) y139.Kinds (yg124 6 1),eI tS y139.Words (yg124 6 0),eI (tI .u8) y134.Kinds (yg124 5 1),eI tS y134.Words (yg124 5 0),eI (tI .u8) y126.Kinds (yg124 2 1),eI tS y126.Words (yg124 2 0),eI (tI .u8) ([] : List Int) (.nil),eI (tI .u8) ([5] : List Int) (yg124 4 0),eO 9 tS kL0 (yg124 11 0),eO 5 (tI .u8) ([6] : List Int) (yg124 12 0),eO 5 (tI .u8) ([6] : List Int) (yg124 15 0)] _:=SH.frz1 (hS.sel [8,0,1,2,3,4,5,6,7,9,10,11] rfl)
    replace hS : SH M X w [eI tS kL0 (yg124 11 0),eI (tI .u8) ([5] : List Int) (yg124 8 0),eI (tI .u8) y139.Kinds (yg124 6 1),eI tS y139.Words (yg124 6 0),eI (tI .u8) y134.Kinds (yg124 5 1),eI tS y134.Words (yg124 5 0),eI (tI .u8) y126.Kinds (yg124 2 1),eI tS y126.Words (yg124 2 0),eI (tI .u8) ([] : List Int) (.nil),eI (tI .u8) ([5] : List Int) (yg124 4 0),eO 5 (tI .u8) ([6] : List Int) (yg124 12 0),eO 5 (tI .u8) ([6] : List Int) (yg124 15 0)] _:=SH.frz1 (hS.sel [9,0,1,2,3,4,5,6,7,8,10,11] rfl)
    replace hS : SH M X w [eI (tI .u8) ([6] : List Int) (yg124 12 0),eI tS kL0 (yg124 11 0),eI (tI .u8) ([5] : List Int) (yg124 8 0),eI (tI .u8) y139.Kinds (yg124 6 1),eI tS y139.Words (yg124 6 0),eI (tI .u8) y134.Kinds (yg124 5 1),eI tS y134.Words (yg124 5 0),eI (tI .u8) y126.Kinds (yg124 2 1),eI tS y126.Words (yg124 2 0),eI (tI .u8) ([] : List Int) (.nil),eI (tI .u8) ([5] : List Int) (yg124 4 0),eO 5 (tI .u8) ([6] : List Int) (yg124 15 0)] _:=SH.frz1 (hS.sel [10,0,1,2,3,4,5,6,7,8,9,11] rfl)
    replace hS : SH M X w [eI (tI .u8) ([6] : List Int) (yg124 15 0),eI (tI .u8) ([6] : List Int) (yg124 12 0),eI tS kL0 (yg124 11 0),eI (tI .u8) ([5] : List Int) (yg124 8 0),eI (tI .u8) y139.Kinds (yg124 6 1),eI tS y139.Words (yg124 6 0),eI (tI .u8) y134.Kinds (yg124 5 1),eI tS y134.Words (yg124 5 0),eI (tI .u8) y126.Kinds (yg124 2 1),eI tS y126.Words (yg124 2 0),eI (tI .u8) ([] : List Int) (.nil),eI (tI .u8) ([5] : List Int) (yg124 4 0)] _:=SH.frz1 (hS.sel [11,0,1,2,3,4,5,6,7,8,9,10] rfl)
    have hd:=hS.hand [9,8,7,6,5,4,3,2,1,0] [0,1,2,3,4,5,6,7,8,9,10,11] rfl rfl
    refine Stp.mono (o_lit (T:=tyProp) (E:=77) (zv:=vG [vN,vF,vU 0,vN,vI 0,vU 0,vU 0,vU 0,vU 0,vO,vO,vF]) [vS y126.Name,vB y126.Inherited,vU y126.Initial.Kind,vS y126.Initial.Word,vI y126.Initial.Num,vU y126.Initial.Color.Red,vU y126.Initial.Color.Green,vU y126.Initial.Color.Blue,vU y126.Initial.Color.Alpha,.slice (yg124 2 0).a y126.Words.length (yg124 2 0).c,.slice (yg124 2 1).a y126.Kinds.length (yg124 2 1).c,vB y126.Least,vS y134.Name,vB y134.Inherited,vU y134.Initial.Kind,vS y134.Initial.Word,vI y134.Initial.Num,vU y134.Initial.Color.Red,vU y134.Initial.Color.Green,vU y134.Initial.Color.Blue,vU y134.Initial.Color.Alpha,.slice (yg124 5 0).a y134.Words.length (yg124 5 0).c,.slice (yg124 5 1).a y134.Kinds.length (yg124 5 1).c,vB y134.Least,vS y139.Name,vB y139.Inherited,vU y139.Initial.Kind,vS y139.Initial.Word,vI y139.Initial.Num,vU y139.Initial.Color.Red,vU y139.Initial.Color.Green,vU y139.Initial.Color.Blue,vU y139.Initial.Color.Alpha,.slice (yg124 6 0).a y139.Words.length (yg124 6 0).c,.slice (yg124 6 1).a y139.Kinds.length (yg124 6 1).c,vB y139.Least,vS [111,112,97,99,105,116,121],vF,vU 5,vN,vI 1000,vU 0,vU 0,vU 0,vU 0,vO,vK (yg124 8 0) 1,vF,vS [122,45,105,110,100,101,120],vF,vU y3.Kind,vS y3.Word,vI y3.Num,vU y3.Color.Red,vU y3.Color.Green,vU y3.Color.Blue,vU y3.Color.Alpha,vK (yg124 11 0) 1,vK (yg124 12 0) 1,vF,vS [111,114,100,101,114],vF,vU 6,vN,vI 0,vU 0,vU 0,vU 0,vU 0,vO,vK (yg124 15 0) 1,vF] ([y126,y134,y139,(TProp.mk [111,112,97,99,105,116,121] false (TVal.mk 5 [] 1000 (TColor.mk 0 0 0 0)) [] ([5] : List Int) false),(TProp.mk [122,45,105,110,100,101,120] false y3 kL0 ([6] : List Int) false),(TProp.mk [111,114,100,101,114] false (TVal.mk 6 [] 0 (TColor.mk 0 0 0 0)) [] ([6] : List Int) false)] : List TProp) [gL [(yg124 2 0),(yg124 2 1)],gL [(yg124 5 0),(yg124 5 1)],gL [(yg124 6 0),(yg124 6 1)],gL [Gh.nil,(yg124 8 0)],gL [(yg124 11 0),(yg124 12 0)],gL [Gh.nil,(yg124 15 0)]] _ H hd rfl (by kernel_rfl) (by kernel_rfl) (by kernel_rfl) (by kernel_rfl) (by kernel_rfl) (by kernel_rfl) (by kernel_rfl) rfl (InnL.cons (tyProp_mk (hd.im 0 rfl) (hd.im 1 rfl)) (InnL.cons (tyProp_mk (hd.im 2 rfl) (hd.im 3 rfl)) (InnL.cons (tyProp_mk (hd.im 4 rfl) (hd.im 5 rfl)) (InnL.cons (tyProp_mk SlG.nil (hd.im 6 rfl)) (InnL.cons (tyProp_mk (hd.im 7 rfl) (hd.im 8 rfl)) (InnL.cons (tyProp_mk SlG.nil (hd.im 9 rfl)) InnL.nil))))))) ?_
    rintro v w2 hq
    obtain ⟨g152,rfl,hq⟩:=hq
    replace hS : SH M X w [eO 77 tyProp ([y126,y134,y139,(TProp.mk [111,112,97,99,105,116,121] false (TVal.mk 5 [] 1000 (TColor.mk 0 0 0 0)) [] ([5] : List Int) false),(TProp.mk [122,45,105,110,100,101,120] false y3 kL0 ([6] : List Int) false),(TProp.mk [111,114,100,101,114] false (TVal.mk 6 [] 0 (TColor.mk 0 0 0 0)) [] ([6] : List Int) false)] : List TProp) g152,eI (tI .u8) ([6] : List Int) (yg124 15 0),eI (tI .u8) ([6] : List Int) (yg124 12 0),eI tS kL0 (yg124 11 0),eI (tI .u8) ([5] : List Int) (yg124 8 0),eI (tI .u8) y139.Kinds (yg124 6 1),eI tS y139.Words (yg124 6 0),eI (tI .u8) y134.Kinds (yg124 5 1),eI tS y134.Words (yg124 5 0),eI (tI .u8) y126.Kinds (yg124 2 1),eI tS y126.Words (yg124 2 0),eI (tI .u8) ([] : List Int) (.nil),eI (tI .u8) ([5] : List Int) (yg124 4 0)] _:=hS.join [9,8,7,6,5,4,3,2,1,0] [0,1,2,3,4,5,6,7,8,9,10,11] rfl rfl hq
    rw [hX] at hS
    exact ⟨gL [g152],fun _ _ => rfl,hS.sel [0,1,2,3,4,5,6,7,8,9,10,11,12] rfl⟩
   ·intro o ho a w yg124 M Hb hv hO hS0
    obtain rfl:=someE ho
    have H : Fr 57 ((fS [55,38] [vK (yg124 17 0) 6,vL g123 z81]) ++ (fS [1,3] [vP b6,vL g123 z81])) _:=((Hb).add (hv 0 (by decide) (by decide) 38 rfl)).add (hv 17 (by decide) (by decide) 55 rfl)
    obtain ⟨X,hX⟩ : ∃ X,X = fpl [eO 77 tyProp ([y126,y134,y139,(TProp.mk [111,112,97,99,105,116,121] false (TVal.mk 5 [] 1000 (TColor.mk 0 0 0 0)) [] ([5] : List Int) false),(TProp.mk [122,45,105,110,100,101,120] false y3 kL0 ([6] : List Int) false),(TProp.mk [111,114,100,101,114] false (TVal.mk 6 [] 0 (TColor.mk 0 0 0 0)) [] ([6] : List Int) false)] : List TProp) (yg124 17 0),eI (tI .u8) ([6] : List Int) (yg124 15 0),eI (tI .u8) ([6] : List Int) (yg124 12 0),eI tS kL0 (yg124 11 0),eI (tI .u8) ([5] : List Int) (yg124 8 0),eI (tI .u8) y139.Kinds (yg124 6 1),eI tS y139.Words (yg124 6 0),eI (tI .u8) y134.Kinds (yg124 5 1),eI tS y134.Words (yg124 5 0),eI (tI .u8) y126.Kinds (yg124 2 1),eI tS y126.Words (yg124 2 0),eI (tI .u8) ([] : List Int) (.nil),eI (tI .u8) ([5] : List Int) (yg124 4 0),eO 77 tyProp z81 g123]:=⟨_,rfl⟩
    have hS : SH M X w [eO 77 tyProp ([y126,y134,y139,(TProp.mk [111,112,97,99,105,116,121] false (TVal.mk 5 [] 1000 (TColor.mk 0 0 0 0)) [] ([5] : List Int) false),(TProp.mk [122,45,105,110,100,101,120] false y3 kL0 ([6] : List Int) false),(TProp.mk [111,114,100,101,114] false (TVal.mk 6 [] 0 (TColor.mk 0 0 0 0)) [] ([6] : List Int) false)] : List TProp) (yg124 17 0),eI (tI .u8) ([6] : List Int) (yg124 15 0),eI (tI .u8) ([6] : List Int) (yg124 12 0),eI tS kL0 (yg124 11 0),eI (tI .u8) ([5] : List Int) (yg124 8 0),eI (tI .u8) y139.Kinds (yg124 6 1),eI tS y139.Words (yg124 6 0),eI (tI .u8) y134.Kinds (yg124 5 1),eI tS y134.Words (yg124 5 0),eI (tI .u8) y126.Kinds (yg124 2 1),eI tS y126.Words (yg124 2 0),eI (tI .u8) ([] : List Int) (.nil),eI (tI .u8) ([5] : List Int) (yg124 4 0),eO 77 tyProp z81 g123] w:=by rw [hX]; exact hS0
    have hd:=hS.hand [13,0] [1,2,3,4,5,6,7,8,9,10,11,12] rfl rfl
    refine Stp.mono (o_app2 (T:=tyProp) (zv:=vG [vN,vF,vU 0,vN,vI 0,vU 0,vU 0,vU 0,vU 0,vO,vO,vF]) (g1:=g123) (g2:=(yg124 17 0)) (l1:=z81) (l2:=([y126,y134,y139,(TProp.mk [111,112,97,99,105,116,121] false (TVal.mk 5 [] 1000 (TColor.mk 0 0 0 0)) [] ([5] : List Int) false),(TProp.mk [122,45,105,110,100,101,120] false y3 kL0 ([6] : List Int) false),(TProp.mk [111,114,100,101,114] false (TVal.mk 6 [] 0 (TColor.mk 0 0 0 0)) [] ([6] : List Int) false)] : List TProp)) q155 hq155.symm H hd rfl rfl rfl rfl rfl rfl rfl (by kernel_rfl) (by kernel_rfl) rfl rfl ho154) ?_
    rintro v w2 hq
    obtain ⟨g156,rfl,hq⟩:=hq
    replace hS : SH M X w [eO 77 tyProp q155 g156,eO 77 tyProp ([y126,y134,y139,(TProp.mk [111,112,97,99,105,116,121] false (TVal.mk 5 [] 1000 (TColor.mk 0 0 0 0)) [] ([5] : List Int) false),(TProp.mk [122,45,105,110,100,101,120] false y3 kL0 ([6] : List Int) false),(TProp.mk [111,114,100,101,114] false (TVal.mk 6 [] 0 (TColor.mk 0 0 0 0)) [] ([6] : List Int) false)] : List TProp) (yg124 17 0),eI (tI .u8) ([6] : List Int) (yg124 15 0),eI (tI .u8) ([6] : List Int) (yg124 12 0),eI tS kL0 (yg124 11 0),eI (tI .u8) ([5] : List Int) (yg124 8 0),eI (tI .u8) y139.Kinds (yg124 6 1),eI tS y139.Words (yg124 6 0),eI (tI .u8) y134.Kinds (yg124 5 1),eI tS y134.Words (yg124 5 0),eI (tI .u8) y126.Kinds (yg124 2 1),eI tS y126.Words (yg124 2 0),eI (tI .u8) ([] : List Int) (.nil),eI (tI .u8) ([5] : List Int) (yg124 4 0)] _:=hS.join [13,0] [1,2,3,4,5,6,7,8,9,10,11,12] rfl rfl hq
    rw [hX] at hS
    exact ⟨gL [g156],fun _ _ => rfl,hS.sel [0,1,2,3,4,5,6,7,8,9,10,11,12,13] rfl⟩
   ·intro o ho a w yg124 M Hb hv hO hS
    obtain rfl:=someE ho
    exact Stp.mono (o_evs [] (.slice (yg124 18 0).a q155.length (yg124 18 0).c) none [] ((Hb).add (hv 18 (by decide) (by decide) 56 rfl)) rfl (by kernel_rfl) (fun q e => by cases e)) fun _ _ hq => ⟨gL [],fun _ _ => hq.1,(hS.below hq.2.below).sel [0] rfl⟩
  have H159 : Fr 57 [(0,[],.slice (yg124 18 0).a q155.length (yg124 18 0).c)] _:=(FrG.add (FrG.keep (ks:=[]) H158 (by kernel_rfl)) (hv 19 0 rfl))
  replace hS : SH M X w [eO 77 tyProp ([y126,y134,y139,(TProp.mk [111,112,97,99,105,116,121] false (TVal.mk 5 [] 1000 (TColor.mk 0 0 0 0)) [] ([5] : List Int) false),(TProp.mk [122,45,105,110,100,101,120] false y3 kL0 ([6] : List Int) false),(TProp.mk [111,114,100,101,114] false (TVal.mk 6 [] 0 (TColor.mk 0 0 0 0)) [] ([6] : List Int) false)] : List TProp) (yg124 17 0),eI (tI .u8) ([6] : List Int) (yg124 15 0),eI (tI .u8) ([6] : List Int) (yg124 12 0),eI tS kL0 (yg124 11 0),eI (tI .u8) ([5] : List Int) (yg124 8 0),eI (tI .u8) y139.Kinds (yg124 6 1),eI tS y139.Words (yg124 6 0),eI (tI .u8) y134.Kinds (yg124 5 1),eI tS y134.Words (yg124 5 0),eI (tI .u8) y126.Kinds (yg124 2 1),eI tS y126.Words (yg124 2 0),eI (tI .u8) ([] : List Int) (.nil),eI (tI .u8) ([5] : List Int) (yg124 4 0),eO 77 tyProp q155 (yg124 18 0),eB b6 (cV y3),gE0] _:=hS
  clear hv H158
  generalize yg124 18 0 = g160 at H159 hS
  generalize yg124 17 0 = g161 at H159 hS
  generalize yg124 15 0 = g162 at H159 hS
  generalize yg124 12 0 = g163 at H159 hS
  generalize yg124 11 0 = g164 at H159 hS
  generalize yg124 8 0 = g165 at H159 hS
  generalize yg124 6 1 = g166 at H159 hS
  generalize yg124 6 0 = g167 at H159 hS
  generalize yg124 5 1 = g168 at H159 hS
  generalize yg124 5 0 = g169 at H159 hS
  generalize yg124 2 1 = g170 at H159 hS
  generalize yg124 2 0 = g171 at H159 hS
  generalize yg124 4 0 = g172 at H159 hS
  replace hS : SH M X w [eO 77 tyProp q155 g160,gE0] _:=hS.sel [13,15] rfl
  apply w_ret
  obtain rfl:=someE hm
  exact retR1 H159 rfl rfl ⟨_,rfl,g160,rfl,(hS.sel [0] rfl)⟩
theorem props_Table_ok  (m : Nat)  (r : List TProp) (hm : props_Table m = some r) (M : Av) (w : World) (hS : S0 M [gE0] w) : DoesX Tryz.prog 35 ⟨[]⟩ w (fun v w' => ∃ (g901 : Gh),v = vL g901 r ∧ SH M (fpl [gE0]) w [eO 77 tyProp r g901] w'):=⟨Tryz.call35 _,props_Table_w M m    r hm w hS⟩

theorem props_Find_1_w {g_p_0 : Gh} {g_p_1 : Gh} {b_u0 : Nat} (M : Av) (p : TProp) (u0 : Str) (r : Bool) (hm : props_Find_1 p u0 = r) (w : World) (hS : S0 M [eI tS p.Words g_p_0,eI (tI .u8) p.Kinds g_p_1,Ent.ro b_u0 [vS u0]] w) : Calls Tryz.prog 56 ⟨[vG [vS p.Name,vB p.Inherited,vU p.Initial.Kind,vS p.Initial.Word,vI p.Initial.Num,vU p.Initial.Color.Red,vU p.Initial.Color.Green,vU p.Initial.Color.Blue,vU p.Initial.Color.Alpha,vL g_p_0 p.Words,vL g_p_1 p.Kinds,vB p.Least],vP b_u0]⟩ w (fun e w' => ∃ v,e = .returned v ∧ v = vB r ∧ SH M (fpl [eI tS p.Words g_p_0,eI (tI .u8) p.Kinds g_p_1,Ent.ro b_u0 [vS u0]]) w [] w'):=by
 rw [props_Find_1] at hm
 have hS0 : SH M (fpl [eI tS p.Words g_p_0,eI (tI .u8) p.Kinds g_p_1,Ent.ro b_u0 [vS u0]]) w [eI tS p.Words g_p_0,eI (tI .u8) p.Kinds g_p_1,Ent.ro b_u0 [vS u0]] w:=hS
 generalize hX : fpl [eI tS p.Words g_p_0,eI (tI .u8) p.Kinds g_p_1,Ent.ro b_u0 [vS u0]] = X at hS0 ⊢
 clear hS hX
 have hS:=hS0
 clear hS0
 refine calls_entryP Tryz.func56 rfl Tryz.ntmps56 rfl fun _ H => ?_
 apply w_seq
 apply wl_start
 have hd:=hS.hand [] [0,1,2] rfl rfl
 refine m_stp [2,1] [(1,[],vP b_u0)] H rfl rfl rfl rfl (o_box [vS p.Name,vB p.Inherited,vU p.Initial.Kind,vS p.Initial.Word,vI p.Initial.Num,vU p.Initial.Color.Red,vU p.Initial.Color.Green,vU p.Initial.Color.Blue,vU p.Initial.Color.Alpha,vL g_p_0 p.Words,vL g_p_1 p.Kinds,vB p.Least] H hd rfl rfl) (fun _ => rfl) fun _ _ v H3 hq => ?_
 obtain ⟨b1,rfl,hq⟩:=hq
 replace hS : SH M X w [eB b1 [vS p.Name,vB p.Inherited,vU p.Initial.Kind,vS p.Initial.Word,vI p.Initial.Num,vU p.Initial.Color.Red,vU p.Initial.Color.Green,vU p.Initial.Color.Blue,vU p.Initial.Color.Alpha,vL g_p_0 p.Words,vL g_p_1 p.Kinds,vB p.Least],eI tS p.Words g_p_0,eI (tI .u8) p.Kinds g_p_1,Ent.ro b_u0 [vS u0]] _:=hS.join [] [0,1,2] rfl rfl hq
 refine wl_batch 1 2 [] [1,2] (fS [1,2] [vP b_u0,vP b1]) [] H3 (by decide) (by kernel_rfl) trivial fun _ _ H5 hb => ?_
 replace hS:=hS.below hb
 apply wl_end rfl
 refine s_reg [(vS p.Name),(vS u0)] [3] [(3,[],vB (p.Name == u0))] [rA b1 0 (vS p.Name),rA b_u0 0 (vS u0)] H5 (by kernel_rfl) ⟨((hS.bk 0 rfl).at1 rfl),((hS.ro 3 rfl).at1 rfl),trivial⟩ fun _ _ H7 hb => ?_
 replace hS:=hS.below hb
 replace hS : SH M X w [] _:=hS.sel [] rfl
 apply w_ret
 subst hm
 exact retR1 H7 rfl rfl ⟨_,rfl,rfl,(hS.sel [] rfl)⟩
theorem props_Find_1_ok {g_p_0 : Gh} {g_p_1 : Gh} {b_u0 : Nat} (p : TProp) (u0 : Str) (w : World) (hL : S0 F0 [eI tS p.Words g_p_0,eI (tI .u8) p.Kinds g_p_1,Ent.ro b_u0 [vS u0]] w ∧ fpl [eI tS p.Words g_p_0,eI (tI .u8) p.Kinds g_p_1,Ent.ro b_u0 [vS u0]] = []) : RetB Tryz.prog 56 ⟨[vG [vS p.Name,vB p.Inherited,vU p.Initial.Kind,vS p.Initial.Word,vI p.Initial.Num,vU p.Initial.Color.Red,vU p.Initial.Color.Green,vU p.Initial.Color.Blue,vU p.Initial.Color.Alpha,vL g_p_0 p.Words,vL g_p_1 p.Kinds,vB p.Least],vP b_u0]⟩ (vB (props_Find_1 p u0)) w:=retB_of hL (Tryz.call56 _) (fun w' h => props_Find_1_w F0   p u0 _ rfl w' h)

theorem slices_IndexFunc_api_Prop_api_Prop_w {g_s : Gh} {b_f_c0 : Nat} (M : Av) (m : Nat) (s : List TProp) (f_c0 : Str) (r : Int) (hm : slices_IndexFunc_api_Prop_api_Prop m s f_c0 = some r) (w : World) (hS : S0 M [eI tyProp s g_s,Ent.ro b_f_c0 [vS f_c0]] w) : Calls Tryz.prog 55 ⟨[vL g_s s,.func (.func 56) ⟨[]⟩ ⟨[vP b_f_c0]⟩]⟩ w (fun e w' => ∃ v,e = .returned v ∧ v = vI r ∧ SH M (fpl [eI tyProp s g_s,Ent.ro b_f_c0 [vS f_c0]]) w [] w'):=by
 rw [slices_IndexFunc_api_Prop_api_Prop] at hm
 have hS0 : SH M (fpl [eI tyProp s g_s,Ent.ro b_f_c0 [vS f_c0]]) w [eI tyProp s g_s,Ent.ro b_f_c0 [vS f_c0]] w:=hS
 generalize hX : fpl [eI tyProp s g_s,Ent.ro b_f_c0 [vS f_c0]] = X at hS0 ⊢
 clear hS hX
 have hS:=hS0
 clear hS0
 refine calls_entryP Tryz.func55 rfl Tryz.ntmps55 rfl fun _ H => ?_
 refine s_reg [] [0,1] (fS [0,1] [vL g_s s,.func (.func 56) ⟨[]⟩ ⟨[vP b_f_c0]⟩]) [] H (by kernel_rfl) trivial fun _ _ H2 hb => ?_
 replace hS:=hS.below hb
 obtain ⟨z3,hz,hm_z3⟩:=bindE hm
 refine w_cut (fun a' w' => ∃ s_z3 : Unit,z3 = Sum.inr s_z3 ∧ Fr 19 [] a' ∧ SH M X w [eI tyProp s g_s,Ent.ro b_f_c0 [vS f_c0]] w') ?_ ?_
 ·replace hm:=hz
  refine s_reg [] [0,1,7,8] (fS [0,1,7,8] [vL g_s s,.func (.func 56) ⟨[]⟩ ⟨[vP b_f_c0]⟩,vI (ln s),vI 0]) [] H2 (by kernel_rfl) trivial fun _ _ H5 hb => ?_
  replace hS:=hS.below hb
  apply w_block
  refine w_loop (fun kk a' w' => ∃ (v6 : Int),slices_IndexFunc_api_Prop_api_Prop_L1 m s f_c0 kk v6 = some _ ∧ Fr 19 (fS [0,1,7,8] [vL g_s s,.func (.func 56) ⟨[]⟩ ⟨[vP b_f_c0]⟩,vI (ln s),vI v6]) a' ∧ SH M X w [eI tyProp s g_s,Ent.ro b_f_c0 [vS f_c0]] w') ⟨_,0,hm,FrG.keep (ks:=[0,1,7,8]) H5 (by kernel_rfl),hS⟩ ?_
  clear hm H5 hS
  rintro kk _ _ ⟨v6,hm,H,hS⟩
  cases kk with
  | zero => exact noneE hm
  | succ kk =>
   rw [slices_IndexFunc_api_Prop_api_Prop_L1] at hm
   refine s_reg [] [0,1,7,8,9] (fS [0,1,7,8,9] [vL g_s s,.func (.func 56) ⟨[]⟩ ⟨[vP b_f_c0]⟩,vI (ln s),vI v6,vB (decide (v6 < (ln s)))]) [] H (by kernel_rfl) trivial fun _ _ H8 hb => ?_
   replace hS:=hS.below hb
   apply w_seq
   refine w_if H8 rfl (fun hc => ?_) (fun hc => ?c19)
   case c19 =>
    replace hm:=bF hc hm
    apply w_exit rfl
    obtain rfl:=someE hm
    exact ⟨_,rfl,FrG.keep (ks:=[]) H8 (by kernel_rfl),hS⟩
   replace hm:=bT hc hm
   apply w_skip
   apply w_seq
   apply w_block
   refine s_reg [] [0,1,5,7,8] (fS [0,1,5,7,8] [vL g_s s,.func (.func 56) ⟨[]⟩ ⟨[vP b_f_c0]⟩,vI v6,vI (ln s),vI v6]) [] H8 (by kernel_rfl) trivial fun _ _ H10 hb => ?_
   replace hS:=hS.below hb
   obtain ⟨ho11,hm⟩:=chkE hm
   refine s_reg [(vG [vS (gi s v6).Name,vB ((gi s v6).Inherited),vU ((gi s v6).Initial.Kind),vS (gi s v6).Initial.Word,vI ((gi s v6).Initial.Num),vU ((gi s v6).Initial.Color.Red),vU ((gi s v6).Initial.Color.Green),vU ((gi s v6).Initial.Color.Blue),vU ((gi s v6).Initial.Color.Alpha),.slice (g_s.s (v6).toNat 0).a (((gi s v6).Words).length) (g_s.s (v6).toNat 0).c,.slice (g_s.s (v6).toNat 1).a (((gi s v6).Kinds).length) (g_s.s (v6).toNat 1).c,vB ((gi s v6).Least)]),(vB (props_Find_1 (gi s v6) f_c0))] [0,1,5,7,8,16] (fS [0,1,5,7,8,16] [vL g_s s,.func (.func 56) ⟨[]⟩ ⟨[vP b_f_c0]⟩,vI v6,vI (ln s),vI v6,vB (props_Find_1 (gi s v6) f_c0)]) [fun _ => oka g_s.a ∧ 0 ≤ v6 ∧ v6 < ln s,fun wz => V.atN (ab g_s.a) (ao g_s.a + (v6).toNat * 12) [vS (gi s v6).Name,vB ((gi s v6).Inherited),vU ((gi s v6).Initial.Kind),vS (gi s v6).Initial.Word,vI ((gi s v6).Initial.Num),vU ((gi s v6).Initial.Color.Red),vU ((gi s v6).Initial.Color.Green),vU ((gi s v6).Initial.Color.Blue),vU ((gi s v6).Initial.Color.Alpha),.slice (g_s.s (v6).toNat 0).a (((gi s v6).Words).length) (g_s.s (v6).toNat 0).c,.slice (g_s.s (v6).toNat 1).a (((gi s v6).Kinds).length) (g_s.s (v6).toNat 1).c,vB ((gi s v6).Least)] 0 wz,rB 56 [vG [vS (gi s v6).Name,vB ((gi s v6).Inherited),vU ((gi s v6).Initial.Kind),vS (gi s v6).Initial.Word,vI ((gi s v6).Initial.Num),vU ((gi s v6).Initial.Color.Red),vU ((gi s v6).Initial.Color.Green),vU ((gi s v6).Initial.Color.Blue),vU ((gi s v6).Initial.Color.Alpha),.slice (g_s.s (v6).toNat 0).a (((gi s v6).Words).length) (g_s.s (v6).toNat 0).c,.slice (g_s.s (v6).toNat 1).a (((gi s v6).Kinds).length) (g_s.s (v6).toNat 1).c,vB ((gi s v6).Least)],vP b_f_c0] (vB (props_Find_1 (gi s v6) f_c0))] H10 (by kernel_rfl) ⟨((hS.im 0 rfl).oki ho11),((hS.im 0 rfl).atA ho11 0 rfl),(props_Find_1_ok (g_p_0:=(g_s.s (v6).toNat 0)) (g_p_1:=(g_s.s (v6).toNat 1)) (b_u0:=b_f_c0) _ _ _ (s0im (s0im (s0ro s0nil (hS.ro 1 rfl)) (tyProp_i1 ((hS.im 0 rfl).el ho11))) (tyProp_i0 ((hS.im 0 rfl).el ho11)))),trivial⟩ fun _ _ H13 hb => ?_
   replace hS:=hS.below hb
   refine w_if H13 rfl (fun hc => ?_) (fun hc => ?c18)
   case c18 =>
    replace hm:=bF hc hm
    apply w_skip
    refine w_reg [] [0,1,7,8] (fS [0,1,7,8] [vL g_s s,.func (.func 56) ⟨[]⟩ ⟨[vP b_f_c0]⟩,vI (ln s),vI (w64 (v6 + 1))]) [] H13 (by kernel_rfl) trivial fun _ _ H17 hb => ?_
    replace hS:=hS.below hb
    exact ⟨_,Nat.lt_succ_self _,w64 (v6 + 1),hm,FrG.keep (ks:=[0,1,7,8]) H17 (by kernel_rfl),hS⟩
   replace hm:=bT hc hm
   refine s_reg [] [4] [(4,[],vI v6)] [] H13 (by kernel_rfl) trivial fun _ _ H15 hb => ?_
   replace hS:=hS.below hb
   apply w_ret
   obtain rfl:=someE hm
   have hm:=hm_z3
   obtain rfl:=someE hm
   exact retR1 H15 rfl rfl ⟨_,rfl,rfl,(hS.sel [] rfl)⟩
 ·rintro _ _ ⟨s_z3,hz,H,hS⟩
  subst hz
  replace hm:=sumR hm_z3
  replace hS : SH M X w [] _:=hS.sel [] rfl
  refine s_reg [] [4] [(4,[],vI (-1))] [] H (by kernel_rfl) trivial fun _ _ H22 hb => ?_
  replace hS:=hS.below hb
  apply w_ret
  obtain rfl:=someE hm
  exact retR1 H22 rfl rfl ⟨_,rfl,rfl,(hS.sel [] rfl)⟩
theorem slices_IndexFunc_api_Prop_api_Prop_ok {g_s : Gh} {b_f_c0 : Nat} (m : Nat) (s : List TProp) (f_c0 : Str) (r : Int) (hm : slices_IndexFunc_api_Prop_api_Prop m s f_c0 = some r) (w : World) (hL : S0 F0 [eI tyProp s g_s,Ent.ro b_f_c0 [vS f_c0]] w ∧ fpl [eI tyProp s g_s,Ent.ro b_f_c0 [vS f_c0]] = []) : RetB Tryz.prog 55 ⟨[vL g_s s,.func (.func 56) ⟨[]⟩ ⟨[vP b_f_c0]⟩]⟩ (vI r) w:=retB_of hL (Tryz.call55 _) (fun w' h => slices_IndexFunc_api_Prop_api_Prop_w F0 m   s f_c0 r hm w' h)

theorem props_Find_w  (M : Av) (m : Nat) (name_ : Str) (r : Int × Int) (hm : props_Find m name_ = some r) (w : World) (hS : S0 M [gE0] w) : Calls Tryz.prog 34 ⟨[vS name_]⟩ w (fun e w' => ∃ v,e = .returned v ∧ v = vW [vI r.1,vI r.2] ∧ SH M (fpl [gE0]) w [] w'):=by
 rw [props_Find] at hm
 have hS0 : SH M (fpl [gE0]) w [gE0] w:=hS
 generalize hX : fpl [gE0] = X at hS0 ⊢
 clear hS hX
 have hS:=hS0
 clear hS0
 refine calls_entryP Tryz.func34 rfl Tryz.ntmps34 rfl fun _ H => ?_
 apply w_seq
 apply wl_start
 have hd:=hS.hand [] [0] rfl rfl
 refine m_stp [1] [] H rfl rfl rfl rfl (o_box [vS name_] H hd rfl rfl) (fun _ => rfl) fun _ _ v H3 hq => ?_
 obtain ⟨b1,rfl,hq⟩:=hq
 replace hS : SH M X w [eB b1 [vS name_],gE0] _:=hS.join [] [0] rfl rfl hq
 refine wl_batch 1 3 [] [1] [(1,[],vP b1)] [] H3 (by decide) (by kernel_rfl) trivial fun _ _ H5 hb => ?_
 replace hS:=hS.below hb
 apply wl_end rfl
 apply w_seq
 apply wl_start
 obtain ⟨y6,hy6,hm⟩:=bindE hm
 have hd:=hS.hand [1] [0,1] rfl rfl
 refine m_stp [5,1] [(1,[],vP b1)] H5 rfl rfl rfl rfl (o_callx H5 rfl rfl (props_Table_ok m _ hy6 _ _ hd)) (fun _ => rfl) fun _ _ v H10 hq => ?_
 obtain ⟨g7,rfl,hq⟩:=hq
 replace hS : SH M X w [eO 77 tyProp y6 g7,eB b1 [vS name_],gE0] _:=hS.join [1] [0,1] rfl rfl hq
 obtain ⟨y11,hy11,hm⟩:=bindE hm
 refine wl_batch 1 4 [(vI y11)] [4] [(4,[],vI y11)] [rB 55 [vL g7 y6,.func (.func 56) ⟨[]⟩ ⟨[vP b1]⟩] (vI y11)] H10 (by decide) (by kernel_rfl) ⟨(slices_IndexFunc_api_Prop_api_Prop_ok (g_s:=g7) (b_f_c0:=b1) m _ _ _ hy11 _ (s0im (s0ro s0nil (hS.bk 1 rfl)) (hS.osl 0 rfl))),trivial⟩ fun _ _ H13 hb => ?_
 replace hS:=hS.below hb
 apply wl_end rfl
 replace hS : SH M X w [gE0] _:=hS.sel [2] rfl
 apply w_seq
 refine s_reg [] [4,9] (fS [4,9] [vI y11,vB (decide (y11 < 0))]) [] H13 (by kernel_rfl) trivial fun _ _ H15 hb => ?_
 replace hS:=hS.below hb
 refine w_if H15 rfl (fun hc => ?c20) (fun hc => ?_)
 case c20 =>
  replace hm:=bT hc hm
  refine s_reg [] [2,3] (fS [2,3] [vI 0,vI 6]) [] H15 (by kernel_rfl) trivial fun _ _ H17 hb => ?_
  replace hS:=hS.below hb
  apply w_ret
  obtain rfl:=someE hm
  exact retR2 H17 rfl rfl rfl ⟨_,rfl,rfl,(hS.sel [] rfl)⟩
 replace hm:=bF hc hm
 apply w_skip
 refine s_reg [] [2,3] (fS [2,3] [vI y11,vI 0]) [] H15 (by kernel_rfl) trivial fun _ _ H19 hb => ?_
 replace hS:=hS.below hb
 apply w_ret
 obtain rfl:=someE hm
 exact retR2 H19 rfl rfl rfl ⟨_,rfl,rfl,(hS.sel [] rfl)⟩
theorem props_Find_ok  (m : Nat) (name_ : Str) (r : Int × Int) (hm : props_Find m name_ = some r) (w : World) (hL : S0 F0 [gE0] w ∧ fpl [gE0] = []) : RetB Tryz.prog 34 ⟨[vS name_]⟩ (vW [vI r.1,vI r.2]) w:=retB_of hL (Tryz.call34 _) (fun w' h => props_Find_w F0 m   name_ r hm w' h)

theorem props_Inherited_w  (M : Av) (m : Nat) (name_ : Str) (r : Bool × Int) (hm : props_Inherited m name_ = some r) (w : World) (hS : S0 M [gE0] w) : Calls Tryz.prog 16 ⟨[vS name_]⟩ w (fun e w' => ∃ v,e = .returned v ∧ v = vW [vB r.1,vI r.2] ∧ SH M (fpl [gE0]) w [] w'):=by
 rw [props_Inherited] at hm
 have hS0 : SH M (fpl [gE0]) w [gE0] w:=hS
 generalize hX : fpl [gE0] = X at hS0 ⊢
 clear hS hX
 have hS:=hS0
 clear hS0
 refine calls_entryP Tryz.func16 rfl Tryz.ntmps16 rfl fun _ H => ?_
 refine s_reg [] [0] [(0,[],vS name_)] [] H (by kernel_rfl) trivial fun _ _ H2 hb => ?_
 replace hS:=hS.below hb
 apply w_seq
 obtain ⟨y3,hy3,hm⟩:=bindE hm
 refine s_reg [(vB y3)] [0,7] (fS [0,7] [vS name_,vB y3]) [rB 33 [vS name_] (vB y3)] H2 (by kernel_rfl) ⟨((props_Custom_ok _ _ hy3).b),trivial⟩ fun _ _ H5 hb => ?_
 replace hS:=hS.below hb
 refine w_if H5 rfl (fun hc => ?c24) (fun hc => ?_)
 case c24 =>
  replace hm:=bT hc hm
  refine s_reg [] [2,3] (fS [2,3] [vT,vI 0]) [] H5 (by kernel_rfl) trivial fun _ _ H7 hb => ?_
  replace hS:=hS.below hb
  apply w_ret
  obtain rfl:=someE hm
  exact retR2 H7 rfl rfl rfl ⟨_,rfl,rfl,(hS.sel [] rfl)⟩
 replace hm:=bF hc hm
 apply w_skip
 obtain ⟨y8,hy8,hm⟩:=bindE hm
 refine s_reg [(vW [vI y8.1,vI y8.2])] [4,5] (fS [4,5] [vI y8.1,vI y8.2]) [rB 34 [vS name_] (vW [vI y8.1,vI y8.2])] H5 (by kernel_rfl) ⟨(props_Find_ok m _ _ hy8 _ (s0im s0nil (hS.im 0 rfl))),trivial⟩ fun _ _ H10 hb => ?_
 replace hS:=hS.below hb
 apply w_seq
 refine s_reg [] [4,5,14] (fS [4,5,14] [vI y8.1,vI y8.2,vB (y8.2 != 0)]) [] H10 (by kernel_rfl) trivial fun _ _ H12 hb => ?_
 replace hS:=hS.below hb
 refine w_if H12 rfl (fun hc => ?c23) (fun hc => ?_)
 case c23 =>
  replace hm:=bT hc hm
  refine s_reg [] [2,3] (fS [2,3] [vF,vI y8.2]) [] H12 (by kernel_rfl) trivial fun _ _ H14 hb => ?_
  replace hS:=hS.below hb
  apply w_ret
  obtain rfl:=someE hm
  exact retR2 H14 rfl rfl rfl ⟨_,rfl,rfl,(hS.sel [] rfl)⟩
 replace hm:=bF hc hm
 apply w_skip
 apply w_seq
 apply wl_start
 obtain ⟨y15,hy15,hm⟩:=bindE hm
 have hd:=hS.hand [0] [0] rfl rfl
 refine m_stp [16,4] [(4,[],vI y8.1)] H12 rfl rfl rfl rfl (o_callx H12 rfl rfl (props_Table_ok m _ hy15 _ _ hd)) (fun _ => rfl) fun _ _ v H19 hq => ?_
 obtain ⟨g16,rfl,hq⟩:=hq
 replace hS : SH M X w [eO 77 tyProp y15 g16,gE0] _:=hS.join [0] [0] rfl rfl hq
 obtain ⟨ho20,hm⟩:=chkE hm
 refine wl_batch 1 7 [(vB ((gi y15 y8.1).Inherited))] [2,3] (fS [2,3] [vB ((gi y15 y8.1).Inherited),vI 0]) [fun _ => oka g16.a ∧ 0 ≤ y8.1 ∧ y8.1 < ln y15,fun wz => V.at1 ⟨ab g16.a,ao g16.a + (y8.1).toNat * 12 + 1,none⟩ (vB ((gi y15 y8.1).Inherited)) wz] H19 (by decide) (by kernel_rfl) ⟨((hS.osl 0 rfl).oki ho20),((hS.osl 0 rfl).at1 ho20 1 rfl),trivial⟩ fun _ _ H22 hb => ?_
 replace hS:=hS.below hb
 apply wl_end rfl
 replace hS : SH M X w [gE0] _:=hS.sel [1] rfl
 apply w_ret
 obtain rfl:=someE hm
 exact retR2 H22 rfl rfl rfl ⟨_,rfl,rfl,(hS.sel [] rfl)⟩
theorem props_Inherited_ok  (m : Nat) (name_ : Str) (r : Bool × Int) (hm : props_Inherited m name_ = some r) (w : World) (hL : S0 F0 [gE0] w ∧ fpl [gE0] = []) : RetB Tryz.prog 16 ⟨[vS name_]⟩ (vW [vB r.1,vI r.2]) w:=retB_of hL (Tryz.call16 _) (fun w' h => props_Inherited_w F0 m   name_ r hm w' h)

theorem nest_closer_w  (M : Av) (kind : Int) (r : Int) (hm : nest_closer kind = r) (w : World) (hS : S0 M [] w) : Calls Tryz.prog 98 ⟨[vU kind]⟩ w (fun e w' => ∃ v,e = .returned v ∧ v = vU r ∧ SH M (fpl []) w [] w'):=by
 rw [nest_closer] at hm
 have hS0 : SH M (fpl []) w [] w:=hS
 generalize hX : fpl [] = X at hS0 ⊢
 clear hS hX
 have hS:=hS0
 clear hS0
 refine calls_entryP Tryz.func98 rfl Tryz.ntmps98 rfl fun _ H => ?_
 refine s_reg [] [0] [(0,[],vU kind)] [] H (by kernel_rfl) trivial fun _ _ H2 hb => ?_
 replace hS:=hS.below hb
 apply w_seq
 refine s_reg [] [0,3] (fS [0,3] [vU kind,vU kind]) [] H2 (by kernel_rfl) trivial fun _ _ H4 hb => ?_
 replace hS:=hS.below hb
 apply w_block
 refine s_reg [] [0,3,4] (fS [0,3,4] [vU kind,vU kind,vB (kind == 2)]) [] H4 (by kernel_rfl) trivial fun _ _ H6 hb => ?_
 replace hS:=hS.below hb
 refine w_if H6 rfl (fun hc => ?c24) (fun hc => ?_)
 case c24 =>
  replace hm:=bT hc hm
  refine s_reg [] [2] [(2,[],vU 22)] [] H6 (by kernel_rfl) trivial fun _ _ H8 hb => ?_
  replace hS:=hS.below hb
  apply w_ret
  subst hm
  exact retR1 H8 rfl rfl ⟨_,rfl,rfl,(hS.sel [] rfl)⟩
 replace hm:=bF hc hm
 obtain ⟨z9,hz,hm⟩:=letE hm
 refine w_cut (fun a' w' => Fr 12 (fS [0,6] [vU kind,vB z9]) a' ∧ SH M X w [] w') ?_ ?_
 ·replace hm:=hz.symm
  refine s_reg [] [0,3,6] (fS [0,3,6] [vU kind,vU kind,vB (kind == 19)]) [] H6 (by kernel_rfl) trivial fun _ _ H11 hb => ?_
  replace hS:=hS.below hb
  refine w_if H11 rfl (fun hc => ?c17) (fun hc => ?_)
  case c17 =>
   replace hm:=bT hc hm
   apply w_skip
   subst hm
   exact ⟨FrG.keep (ks:=[0,6]) H11 (by kernel_rfl),hS⟩
  replace hm:=bF hc hm
  refine s_reg [] [0,3,6] (fS [0,3,6] [vU kind,vU kind,vB (kind == 21)]) [] H11 (by kernel_rfl) trivial fun _ _ H13 hb => ?_
  replace hS:=hS.below hb
  refine w_if H13 rfl (fun hc => ?c16) (fun hc => ?_)
  case c16 =>
   replace hm:=bT hc hm
   apply w_skip
   subst hm
   exact ⟨FrG.keep (ks:=[0,6]) H13 (by kernel_rfl),hS⟩
  replace hm:=bF hc hm
  refine w_reg [] [0,6] (fS [0,6] [vU kind,vB (kind == 23)]) [] H13 (by kernel_rfl) trivial fun _ _ H15 hb => ?_
  replace hS:=hS.below hb
  subst hm
  exact ⟨FrG.keep (ks:=[0,6]) H15 (by kernel_rfl),hS⟩
 ·rintro _ _ ⟨H,hS⟩
  refine w_if H rfl (fun hc => ?c22) (fun hc => ?_)
  case c22 =>
   replace hm:=bT hc hm
   refine s_reg [] [2] [(2,[],vU (wu8 (kind + 1)))] [] H (by kernel_rfl) trivial fun _ _ H19 hb => ?_
   replace hS:=hS.below hb
   apply w_ret
   subst hm
   exact retR1 H19 rfl rfl ⟨_,rfl,rfl,(hS.sel [] rfl)⟩
  replace hm:=bF hc hm
  apply w_skip
  refine s_reg [] [2] [(2,[],vU 0)] [] H (by kernel_rfl) trivial fun _ _ H21 hb => ?_
  replace hS:=hS.below hb
  apply w_ret
  subst hm
  exact retR1 H21 rfl rfl ⟨_,rfl,rfl,(hS.sel [] rfl)⟩
theorem nest_closer_ok  (kind : Int) : Ret Tryz.prog 98 ⟨[vU kind]⟩ (vU (nest_closer kind)):=retP_of (Tryz.call98 _) (fun w h => nest_closer_w F0   kind _ rfl w h)

def nest_look_S (rec_ : (List TValue) → Int → Option (Tnest_found)) : Prop:=∀ (g_v_ : Gh) (M : Av) (v_ : List TValue) (closes : Int) (r : Tnest_found),rec_ v_ closes = some r → ∀ w,S0 M [eI tyValue v_ g_v_] w → Calls Tryz.prog 87 ⟨[vL g_v_ v_,vU closes]⟩ w (fun e w' => ∃ v,e = .returned v ∧ v = vG [vI r.depth,vI r.tokens,vB r.bad] ∧ SH M (fpl [eI tyValue v_ g_v_]) w [] w')
theorem nest_look_w (m : Nat) : ∀ (k : Nat),nest_look_S (nest_look_r m  k):=by
 intro k
 induction k with
 | zero => intro g_v_ M v_ closes r hm; exact noneE hm
 | succ k ih =>
  intro g_v_ M v_ closes r hm w hS
  rw [nest_look_r] at hm
  have hS0 : SH M (fpl [eI tyValue v_ g_v_]) w [eI tyValue v_ g_v_] w:=hS
  generalize hX : fpl [eI tyValue v_ g_v_] = X at hS0 ⊢
  clear hS hX
  have hS:=hS0
  clear hS0
  refine calls_entryP Tryz.func87 rfl Tryz.ntmps87 rfl fun _ H => ?_
  apply w_seq
  apply wl_start
  have hd:=hS.hand [] [0] rfl rfl
  refine m_stp [4,0,1] (fS [0,1] [vL g_v_ v_,vU closes]) H rfl rfl rfl rfl (o_alloc [vI 0,vI 0,vF] (z:=vG [vI 0,vI 0,vF]) hd (by kernel_rfl) rfl) (fun _ => rfl) fun _ _ v H3 hq => ?_
  obtain ⟨b1,rfl,hq⟩:=hq
  replace hS : SH M X w [eB b1 [vI 0,vI 0,vF],eI tyValue v_ g_v_] _:=hS.join [] [0] rfl rfl hq
  apply wl_end rfl
  apply w_seq
  apply wl_start
  have hd:=hS.hand [] [0,1] rfl rfl
  refine m_stp [5,0,1,4] (fS [0,1,4] [vL g_v_ v_,vU closes,vP b1]) H3 rfl rfl rfl rfl (o_alloc [vI 0,vI 0,vF] (z:=vG [vI 0,vI 0,vF]) hd (by kernel_rfl) rfl) (fun _ => rfl) fun _ _ v H6 hq => ?_
  obtain ⟨b4,rfl,hq⟩:=hq
  replace hS : SH M X w [eB b4 [vI 0,vI 0,vF],eB b1 [vI 0,vI 0,vF],eI tyValue v_ g_v_] _:=hS.join [] [0,1] rfl rfl hq
  apply wl_end rfl
  obtain ⟨z7,hz,hm⟩:=bindE hm
  refine w_cut (fun a' w' => Fr 71 (fS [4,5] [vP b1,vP b4]) a' ∧ SH M X w [eB b4 [vI z7.1,vI z7.2.1,vB z7.2.2],eB b1 [vI 0,vI 0,vF],eI tyValue v_ g_v_] w') ?_ ?_
  ·replace hm:=hz
   refine s_reg [] [1,4,5,10,11,12] (fS [1,4,5,10,11,12] [vU closes,vP b1,vP b4,vL g_v_ v_,vI (ln v_),vI 0]) [] H6 (by kernel_rfl) trivial fun _ _ H9 hb => ?_
   replace hS:=hS.below hb
   apply w_block
   refine w_loop (fun kk a' w' => ∃ (v10 : Int) (v11 : Int) (v12 : Int) (v13 : Bool),nest_look_L1 m v_ closes (nest_look_r m k) kk v10 v11 v12 v13 = some _ ∧ Fr 71 (fS [1,4,5,10,11,12] [vU closes,vP b1,vP b4,vL g_v_ v_,vI (ln v_),vI v10]) a' ∧ SH M X w [eB b4 [vI v11,vI v12,vB v13],eB b1 [vI 0,vI 0,vF],eI tyValue v_ g_v_] w') ⟨_,0,0,0,false,hm,FrG.keep (ks:=[1,4,5,10,11,12]) H9 (by kernel_rfl),hS⟩ ?_
   clear hm H9 hS
   rintro kk _ _ ⟨v10,v11,v12,v13,hm,H,hS⟩
   cases kk with
   | zero => exact noneE hm
   | succ kk =>
    rw [nest_look_L1] at hm
    refine s_reg [] [1,4,5,10,11,12,13] (fS [1,4,5,10,11,12,13] [vU closes,vP b1,vP b4,vL g_v_ v_,vI (ln v_),vI v10,vB (decide (v10 < (ln v_)))]) [] H (by kernel_rfl) trivial fun _ _ H15 hb => ?_
    replace hS:=hS.below hb
    apply w_seq
    refine w_if H15 rfl (fun hc => ?_) (fun hc => ?c63)
    case c63 =>
     replace hm:=bF hc hm
     apply w_exit rfl
     obtain rfl:=someE hm
     exact ⟨FrG.keep (ks:=[4,5]) H15 (by kernel_rfl),hS⟩
    replace hm:=bT hc hm
    apply w_skip
    obtain ⟨z16,hz,hm⟩:=bindE hm
    refine w_cut (fun a' w' => Fr 71 (fS [1,4,5,10,11,12] [vU closes,vP b1,vP b4,vL g_v_ v_,vI (ln v_),vI v10]) a' ∧ SH M X w [eB b4 [vI z16.2.2,vI z16.1,vB z16.2.1],eB b1 [vI 0,vI 0,vF],eI tyValue v_ g_v_] w') ?_ ?_
    ·replace hm:=hz
     apply w_block
     apply w_seq
     apply wl_start
     obtain ⟨ho17,hm⟩:=chkE hm
     refine wl_batch 0 2 [(vG [vU ((gi v_ v10).Token.Kind),vS (gi v_ v10).Token.Text,vI ((gi v_ v10).Token.Num),vS (gi v_ v10).Token.Unit,vB ((gi v_ v10).Token.Flag),.slice (g_v_.s (v10).toNat 0).a (((gi v_ v10).List_).length) (g_v_.s (v10).toNat 0).c])] [1,4,5,10,11,12,15] (fS [1,4,5,10,11,12,15] [vU closes,vP b1,vP b4,vL g_v_ v_,vI (ln v_),vI v10,vG [vU ((gi v_ v10).Token.Kind),vS (gi v_ v10).Token.Text,vI ((gi v_ v10).Token.Num),vS (gi v_ v10).Token.Unit,vB ((gi v_ v10).Token.Flag),.slice (g_v_.s (v10).toNat 0).a (((gi v_ v10).List_).length) (g_v_.s (v10).toNat 0).c]]) [fun _ => oka g_v_.a ∧ 0 ≤ v10 ∧ v10 < ln v_,fun wz => V.atN (ab g_v_.a) (ao g_v_.a + (v10).toNat * 6) [vU ((gi v_ v10).Token.Kind),vS (gi v_ v10).Token.Text,vI ((gi v_ v10).Token.Num),vS (gi v_ v10).Token.Unit,vB ((gi v_ v10).Token.Flag),.slice (g_v_.s (v10).toNat 0).a (((gi v_ v10).List_).length) (g_v_.s (v10).toNat 0).c] 0 wz] H15 (by decide) (by kernel_rfl) ⟨((hS.im 2 rfl).oki ho17),((hS.im 2 rfl).atA ho17 0 rfl),trivial⟩ fun _ _ H19 hb => ?_
     replace hS:=hS.below hb
     have hd:=hS.hand [] [0,1,2] rfl rfl
     refine m_stp [7,1,4,5,10,11,12,15] (fS [1,4,5,10,11,12,15] [vU closes,vP b1,vP b4,vL g_v_ v_,vI (ln v_),vI v10,vG [vU ((gi v_ v10).Token.Kind),vS (gi v_ v10).Token.Text,vI ((gi v_ v10).Token.Num),vS (gi v_ v10).Token.Unit,vB ((gi v_ v10).Token.Flag),.slice (g_v_.s (v10).toNat 0).a (((gi v_ v10).List_).length) (g_v_.s (v10).toNat 0).c]]) H19 rfl rfl rfl rfl (o_alloc [vU 0,vN,vI 0,vN,vF,vO] (z:=vG [vU 0,vN,vI 0,vN,vF,vO]) hd (by kernel_rfl) rfl) (fun _ => rfl) fun _ _ v H22 hq => ?_
     obtain ⟨b20,rfl,hq⟩:=hq
     replace hS : SH M X w [eB b20 [vU 0,vN,vI 0,vN,vF,vO],eB b4 [vI v11,vI v12,vB v13],eB b1 [vI 0,vI 0,vF],eI tyValue v_ g_v_] _:=hS.join [] [0,1,2] rfl rfl hq
     have hd:=hS.hand [0] [1,2,3] rfl rfl
     refine m_stp0 [1,4,5,7,10,11,12] (fS [1,4,5,7,10,11,12] [vU closes,vP b1,vP b4,vP b20,vL g_v_ v_,vI (ln v_),vI v10]) H22 rfl rfl rfl (o_store [vU ((gi v_ v10).Token.Kind),vS (gi v_ v10).Token.Text,vI ((gi v_ v10).Token.Num),vS (gi v_ v10).Token.Unit,vB ((gi v_ v10).Token.Flag),.slice (g_v_.s (v10).toNat 0).a (((gi v_ v10).List_).length) (g_v_.s (v10).toNat 0).c] H22 hd rfl rfl (by kernel_rfl) rfl rfl rfl) rfl fun _ _ H24 hq => ?_
     obtain ⟨_,hq⟩:=hq
     replace hS : SH M X w [eB b20 [vU ((gi v_ v10).Token.Kind),vS (gi v_ v10).Token.Text,vI ((gi v_ v10).Token.Num),vS (gi v_ v10).Token.Unit,vB ((gi v_ v10).Token.Flag),.slice (g_v_.s (v10).toNat 0).a (((gi v_ v10).List_).length) (g_v_.s (v10).toNat 0).c],eB b4 [vI v11,vI v12,vB v13],eB b1 [vI 0,vI 0,vF],eI tyValue v_ g_v_] _:=hS.join [0] [1,2,3] rfl rfl hq
     apply wl_end rfl
     apply w_seq
     apply wl_start
     refine wl_batch 0 4 [(vI v12)] [1,4,5,7,10,11,12,18,19] (fS [1,4,5,7,10,11,12,18,19] [vU closes,vP b1,vP b4,vP b20,vL g_v_ v_,vI (ln v_),vI v10,vI (w64 (v12 + 1)),vA b4 1]) [rA b4 1 (vI v12)] H24 (by decide) (by kernel_rfl) ⟨((hS.bk 1 rfl).at1 rfl),trivial⟩ fun _ _ H26 hb => ?_
     replace hS:=hS.below hb
     have hd:=hS.hand [1] [0,2,3] rfl rfl
     refine m_stp0 [1,4,5,7,10,11,12] (fS [1,4,5,7,10,11,12] [vU closes,vP b1,vP b4,vP b20,vL g_v_ v_,vI (ln v_),vI v10]) H26 rfl rfl rfl (o_store [vI v11,vI (w64 (v12 + 1)),vB v13] H26 hd rfl rfl (by kernel_rfl) rfl rfl rfl) rfl fun _ _ H28 hq => ?_
     obtain ⟨_,hq⟩:=hq
     replace hS : SH M X w [eB b4 [vI v11,vI (w64 (v12 + 1)),vB v13],eB b20 [vU ((gi v_ v10).Token.Kind),vS (gi v_ v10).Token.Text,vI ((gi v_ v10).Token.Num),vS (gi v_ v10).Token.Unit,vB ((gi v_ v10).Token.Flag),.slice (g_v_.s (v10).toNat 0).a (((gi v_ v10).List_).length) (g_v_.s (v10).toNat 0).c],eB b1 [vI 0,vI 0,vF],eI tyValue v_ g_v_] _:=hS.join [1] [0,2,3] rfl rfl hq
     apply wl_end rfl
     refine s_reg [(vU ((gi v_ v10).Token.Kind)),(vU (nest_closer ((gi v_ v10).Token.Kind)))] [1,4,5,7,8,10,11,12] (fS [1,4,5,7,8,10,11,12] [vU closes,vP b1,vP b4,vP b20,vU (nest_closer ((gi v_ v10).Token.Kind)),vL g_v_ v_,vI (ln v_),vI v10]) [rA b20 0 (vU ((gi v_ v10).Token.Kind)),rB 98 [vU ((gi v_ v10).Token.Kind)] (vU (nest_closer ((gi v_ v10).Token.Kind)))] H28 (by kernel_rfl) ⟨((hS.bk 1 rfl).at1 rfl),((nest_closer_ok _).b),trivial⟩ fun _ _ H30 hb => ?_
     replace hS:=hS.below hb
     obtain ⟨z31,hz,hm⟩:=bindE hm
     refine w_cut (fun a' w' => Fr 71 (fS [1,4,5,7,8,10,11,12] [vU closes,vP b1,vP b4,vP b20,vU (nest_closer ((gi v_ v10).Token.Kind)),vL g_v_ v_,vI (ln v_),vI v10]) a' ∧ SH M X w [eB b4 [vI v11,vI (w64 (v12 + 1)),vB z31],eB b20 [vU ((gi v_ v10).Token.Kind),vS (gi v_ v10).Token.Text,vI ((gi v_ v10).Token.Num),vS (gi v_ v10).Token.Unit,vB ((gi v_ v10).Token.Flag),.slice (g_v_.s (v10).toNat 0).a (((gi v_ v10).List_).length) (g_v_.s (v10).toNat 0).c],eB b1 [vI 0,vI 0,vF],eI tyValue v_ g_v_] w') ?_ ?_
     ·replace hm:=hz
      obtain ⟨x32,hx32,hm⟩:=letE hm
      obtain ⟨x33,hx33,hm⟩:=letE hm
      refine s_reg [(vU ((gi v_ v10).Token.Kind)),(.slice (g_v_.s (v10).toNat 0).a (((gi v_ v10).List_).length) (g_v_.s (v10).toNat 0).c)] [1,4,5,7,8,10,11,12,42] (fS [1,4,5,7,8,10,11,12,42] [vU closes,vP b1,vP b4,vP b20,vU (nest_closer ((gi v_ v10).Token.Kind)),vL g_v_ v_,vI (ln v_),vI v10,vB x33]) [fun wz => ((closes != 0) = true ∧ True → V.at1 ⟨b20,0,none⟩ (vU ((gi v_ v10).Token.Kind)) wz),fun wz => (((nest_closer ((gi v_ v10).Token.Kind)) == 0) = true ∧ x32 = false ∧ True → V.at1 ⟨b20,5,none⟩ (.slice (g_v_.s (v10).toNat 0).a (((gi v_ v10).List_).length) (g_v_.s (v10).toNat 0).c) wz)] H30 (by subst hx32 hx33; kernel_rfl) ⟨fun hg => (hS.bk 1 rfl).at1 rfl,fun hg => (hS.bk 1 rfl).at1 rfl,trivial⟩ fun _ _ H35 hb => ?_
      replace hS:=hS.below hb
      refine w_if H35 rfl (fun hc => ?_) (fun hc => ?c40)
      case c40 =>
       replace hm:=bF hc hm
       apply w_skip
       obtain rfl:=someE hm
       exact ⟨FrG.keep (ks:=[1,4,5,7,8,10,11,12]) H35 (by kernel_rfl),hS⟩
      replace hm:=bT hc hm
      apply wl_start
      refine wl_batch 0 1 [] [1,4,5,7,8,10,11,12,43] (fS [1,4,5,7,8,10,11,12,43] [vU closes,vP b1,vP b4,vP b20,vU (nest_closer ((gi v_ v10).Token.Kind)),vL g_v_ v_,vI (ln v_),vI v10,vA b4 2]) [] H35 (by decide) (by kernel_rfl) trivial fun _ _ H37 hb => ?_
      replace hS:=hS.below hb
      have hd:=hS.hand [0] [1,2,3] rfl rfl
      refine m_stp0 [1,4,5,7,8,10,11,12] (fS [1,4,5,7,8,10,11,12] [vU closes,vP b1,vP b4,vP b20,vU (nest_closer ((gi v_ v10).Token.Kind)),vL g_v_ v_,vI (ln v_),vI v10]) H37 rfl rfl rfl (o_store [vI v11,vI (w64 (v12 + 1)),vT] H37 hd rfl rfl (by kernel_rfl) rfl rfl rfl) rfl fun _ _ H39 hq => ?_
      obtain ⟨_,hq⟩:=hq
      replace hS : SH M X w [eB b4 [vI v11,vI (w64 (v12 + 1)),vT],eB b20 [vU ((gi v_ v10).Token.Kind),vS (gi v_ v10).Token.Text,vI ((gi v_ v10).Token.Num),vS (gi v_ v10).Token.Unit,vB ((gi v_ v10).Token.Flag),.slice (g_v_.s (v10).toNat 0).a (((gi v_ v10).List_).length) (g_v_.s (v10).toNat 0).c],eB b1 [vI 0,vI 0,vF],eI tyValue v_ g_v_] _:=hS.join [0] [1,2,3] rfl rfl hq
      apply wl_end rfl
      obtain rfl:=someE hm
      exact ⟨FrG.keep (ks:=[1,4,5,7,8,10,11,12]) H39 (by kernel_rfl),hS⟩
     ·rintro _ _ ⟨H,hS⟩
      apply w_seq
      obtain ⟨x41,hx41,hm⟩:=letE hm
      refine s_reg [] [1,4,5,7,8,10,11,12,45] (fS [1,4,5,7,8,10,11,12,45] [vU closes,vP b1,vP b4,vP b20,vU (nest_closer ((gi v_ v10).Token.Kind)),vL g_v_ v_,vI (ln v_),vI v10,vB x41]) [] H (by subst hx41; kernel_rfl) trivial fun _ _ H43 hb => ?_
      replace hS:=hS.below hb
      refine w_if H43 rfl (fun hc => ?c58) (fun hc => ?_)
      case c58 =>
       replace hm:=bT hc hm
       apply w_exit rfl
       obtain rfl:=someE hm
       replace hS : SH M X w [eB b4 [vI v11,vI (w64 (v12 + 1)),vB z31],eB b1 [vI 0,vI 0,vF],eI tyValue v_ g_v_] _:=hS.sel [0,2,3] rfl
       exact ⟨FrG.keep (ks:=[1,4,5,10,11,12]) H43 (by kernel_rfl),hS⟩
      replace hm:=bF hc hm
      apply w_skip
      apply w_seq
      apply wl_start
      obtain ⟨y44,hy44,hm⟩:=bindE hm
      refine wl_batch 0 4 [(.slice (g_v_.s (v10).toNat 0).a (((gi v_ v10).List_).length) (g_v_.s (v10).toNat 0).c),(vG [vI y44.depth,vI y44.tokens,vB y44.bad])] [1,4,5,10,11,12,49] (fS [1,4,5,10,11,12,49] [vU closes,vP b1,vP b4,vL g_v_ v_,vI (ln v_),vI v10,vG [vI y44.depth,vI y44.tokens,vB y44.bad]]) [fun wz => V.at1 ⟨b20,5,none⟩ (.slice (g_v_.s (v10).toNat 0).a (((gi v_ v10).List_).length) (g_v_.s (v10).toNat 0).c) wz,rB 87 [.slice (g_v_.s (v10).toNat 0).a (((gi v_ v10).List_).length) (g_v_.s (v10).toNat 0).c,vU (nest_closer ((gi v_ v10).Token.Kind))] (vG [vI y44.depth,vI y44.tokens,vB y44.bad])] H43 (by decide) (by kernel_rfl) ⟨((hS.bk 1 rfl).at1 rfl),(retB_of (s0im s0nil (tyValue_i0 ((hS.im 3 rfl).el ho17))) (Tryz.call87 _) (fun w' h' => ih ((g_v_.s (v10).toNat 0)) F0 _ _ _ hy44 w' h')),trivial⟩ fun _ _ H46 hb => ?_
      replace hS:=hS.below hb
      have hd:=hS.hand [] [0,1,2,3] rfl rfl
      refine m_stp [9,1,4,5,10,11,12,49] (fS [1,4,5,10,11,12,49] [vU closes,vP b1,vP b4,vL g_v_ v_,vI (ln v_),vI v10,vG [vI y44.depth,vI y44.tokens,vB y44.bad]]) H46 rfl rfl rfl rfl (o_alloc [vI 0,vI 0,vF] (z:=vG [vI 0,vI 0,vF]) hd (by kernel_rfl) rfl) (fun _ => rfl) fun _ _ v H49 hq => ?_
      obtain ⟨b47,rfl,hq⟩:=hq
      replace hS : SH M X w [eB b47 [vI 0,vI 0,vF],eB b4 [vI v11,vI (w64 (v12 + 1)),vB z31],eB b20 [vU ((gi v_ v10).Token.Kind),vS (gi v_ v10).Token.Text,vI ((gi v_ v10).Token.Num),vS (gi v_ v10).Token.Unit,vB ((gi v_ v10).Token.Flag),.slice (g_v_.s (v10).toNat 0).a (((gi v_ v10).List_).length) (g_v_.s (v10).toNat 0).c],eB b1 [vI 0,vI 0,vF],eI tyValue v_ g_v_] _:=hS.join [] [0,1,2,3] rfl rfl hq
      have hd:=hS.hand [0] [1,2,3,4] rfl rfl
      refine m_stp0 [1,4,5,9,10,11,12] (fS [1,4,5,9,10,11,12] [vU closes,vP b1,vP b4,vP b47,vL g_v_ v_,vI (ln v_),vI v10]) H49 rfl rfl rfl (o_store [vI y44.depth,vI y44.tokens,vB y44.bad] H49 hd rfl rfl (by kernel_rfl) rfl rfl rfl) rfl fun _ _ H51 hq => ?_
      obtain ⟨_,hq⟩:=hq
      replace hS : SH M X w [eB b47 [vI y44.depth,vI y44.tokens,vB y44.bad],eB b4 [vI v11,vI (w64 (v12 + 1)),vB z31],eB b20 [vU ((gi v_ v10).Token.Kind),vS (gi v_ v10).Token.Text,vI ((gi v_ v10).Token.Num),vS (gi v_ v10).Token.Unit,vB ((gi v_ v10).Token.Flag),.slice (g_v_.s (v10).toNat 0).a (((gi v_ v10).List_).length) (g_v_.s (v10).toNat 0).c],eB b1 [vI 0,vI 0,vF],eI tyValue v_ g_v_] _:=hS.join [0] [1,2,3,4] rfl rfl hq
      apply wl_end rfl
      replace hS : SH M X w [eB b47 [vI y44.depth,vI y44.tokens,vB y44.bad],eB b4 [vI v11,vI (w64 (v12 + 1)),vB z31],eB b1 [vI 0,vI 0,vF],eI tyValue v_ g_v_] _:=hS.sel [0,1,3,4] rfl
      apply wl_start
      obtain ⟨x52,hx52,hm⟩:=letE hm
      obtain ⟨x53,hx53,hm⟩:=letE hm
      refine wl_batch 0 19 [(vI v11),(vI y44.depth),(vI (w64 (v12 + 1))),(vI y44.tokens),(vB z31),(vB y44.bad)] [1,4,5,10,11,12,68] (fS [1,4,5,10,11,12,68] [vU closes,vP b1,vP b4,vL g_v_ v_,vI (ln v_),vI v10,vG [vI x52,vI x53,vB (cond z31 true y44.bad)]]) [rA b4 0 (vI v11),rA b47 0 (vI y44.depth),rA b4 1 (vI (w64 (v12 + 1))),rA b47 1 (vI y44.tokens),rA b4 2 (vB z31),fun wz => (z31 = false ∧ True → V.at1 ⟨b47,2,none⟩ (vB y44.bad) wz)] H51 (by decide) (by subst hx52 hx53; kernel_rfl) ⟨((hS.bk 1 rfl).at1 rfl),((hS.bk 0 rfl).at1 rfl),((hS.bk 1 rfl).at1 rfl),((hS.bk 0 rfl).at1 rfl),((hS.bk 1 rfl).at1 rfl),fun hg => (hS.bk 0 rfl).at1 rfl,trivial⟩ fun _ _ H55 hb => ?_
      replace hS:=hS.below hb
      have hd:=hS.hand [1] [0,2,3] rfl rfl
      refine m_stp0 [1,4,5,10,11,12] (fS [1,4,5,10,11,12] [vU closes,vP b1,vP b4,vL g_v_ v_,vI (ln v_),vI v10]) H55 rfl rfl rfl (o_store [vI x52,vI x53,vB (cond z31 true y44.bad)] H55 hd rfl rfl (by kernel_rfl) rfl rfl rfl) rfl fun _ _ H57 hq => ?_
      obtain ⟨_,hq⟩:=hq
      replace hS : SH M X w [eB b4 [vI x52,vI x53,vB (cond z31 true y44.bad)],eB b47 [vI y44.depth,vI y44.tokens,vB y44.bad],eB b1 [vI 0,vI 0,vF],eI tyValue v_ g_v_] _:=hS.join [1] [0,2,3] rfl rfl hq
      apply wl_end rfl
      replace hS : SH M X w [eB b4 [vI x52,vI x53,vB (cond z31 true y44.bad)],eB b1 [vI 0,vI 0,vF],eI tyValue v_ g_v_] _:=hS.sel [0,2,3] rfl
      obtain rfl:=someE hm
      exact ⟨FrG.keep (ks:=[1,4,5,10,11,12]) H57 (by kernel_rfl),hS⟩
    ·rintro _ _ ⟨H,hS⟩
     refine w_reg [] [1,4,5,10,11,12] (fS [1,4,5,10,11,12] [vU closes,vP b1,vP b4,vL g_v_ v_,vI (ln v_),vI (w64 (v10 + 1))]) [] H (by kernel_rfl) trivial fun _ _ H61 hb => ?_
     replace hS:=hS.below hb
     exact ⟨_,Nat.lt_succ_self _,w64 (v10 + 1),z16.2.2,z16.1,z16.2.1,hm,FrG.keep (ks:=[1,4,5,10,11,12]) H61 (by kernel_rfl),hS⟩
  ·rintro _ _ ⟨H,hS⟩
   replace hS : SH M X w [eB b4 [vI z7.1,vI z7.2.1,vB z7.2.2],eB b1 [vI 0,vI 0,vF]] _:=hS.sel [0,1] rfl
   apply w_seq
   apply wl_start
   refine wl_batch 0 1 [(vG [vI z7.1,vI z7.2.1,vB z7.2.2])] [4,70] (fS [4,70] [vP b1,vG [vI z7.1,vI z7.2.1,vB z7.2.2]]) [rN b4 0 [vI z7.1,vI z7.2.1,vB z7.2.2]] H (by decide) (by kernel_rfl) ⟨((hS.bk 0 rfl).atD rfl),trivial⟩ fun _ _ H66 hb => ?_
   replace hS:=hS.below hb
   have hd:=hS.hand [1] [0] rfl rfl
   refine m_stp0 [4] [(4,[],vP b1)] H66 rfl rfl rfl (o_store [vI z7.1,vI z7.2.1,vB z7.2.2] H66 hd rfl rfl (by kernel_rfl) rfl rfl rfl) rfl fun _ _ H68 hq => ?_
   obtain ⟨_,hq⟩:=hq
   replace hS : SH M X w [eB b1 [vI z7.1,vI z7.2.1,vB z7.2.2],eB b4 [vI z7.1,vI z7.2.1,vB z7.2.2]] _:=hS.join [1] [0] rfl rfl hq
   apply wl_end rfl
   replace hS : SH M X w [eB b1 [vI z7.1,vI z7.2.1,vB z7.2.2]] _:=hS.sel [0] rfl
   apply w_ret
   obtain rfl:=someE hm
   exact retR1 H68 rfl (oneRes_agg rfl (hS.bk 0 rfl) Tryz.underlying138 rfl (by kernel_rfl)) ⟨_,rfl,rfl,(hS.sel [] rfl)⟩
theorem nest_look_ok {g_v_ : Gh} (m : Nat) (v_ : List TValue) (closes : Int) (r : Tnest_found) (hm : nest_look m v_ closes = some r) (w : World) (hL : S0 F0 [eI tyValue v_ g_v_] w ∧ fpl [eI tyValue v_ g_v_] = []) : RetB Tryz.prog 87 ⟨[vL g_v_ v_,vU closes]⟩ (vG [vI r.depth,vI r.tokens,vB r.bad]) w:=retB_of hL (Tryz.call87 _) (fun w' h => nest_look_w m   m g_v_ F0 v_ closes r hm w' h)

theorem nest_Check_w {g_v_ : Gh} (M : Av) (m : Nat) (v_ : List TValue) (r : Int) (hm : nest_Check m v_ = some r) (w : World) (hS : S0 M [eI tyValue v_ g_v_] w) : Calls Tryz.prog 71 ⟨[vL g_v_ v_]⟩ w (fun e w' => ∃ v,e = .returned v ∧ v = vI r ∧ SH M (fpl [eI tyValue v_ g_v_]) w [] w'):=by
 rw [nest_Check] at hm
 have hS0 : SH M (fpl [eI tyValue v_ g_v_]) w [eI tyValue v_ g_v_] w:=hS
 generalize hX : fpl [eI tyValue v_ g_v_] = X at hS0 ⊢
 clear hS hX
 have hS:=hS0
 clear hS0
 refine calls_entryP Tryz.func71 rfl Tryz.ntmps71 rfl fun _ H => ?_
 refine s_reg [] [0] [(0,[],vL g_v_ v_)] [] H (by kernel_rfl) trivial fun _ _ H2 hb => ?_
 replace hS:=hS.below hb
 apply w_seq
 apply w_seq
 apply wl_start
 obtain ⟨y3,hy3,hm⟩:=bindE hm
 refine wl_batch 0 2 [(vG [vI y3.depth,vI y3.tokens,vB y3.bad])] [5] [(5,[],vG [vI y3.depth,vI y3.tokens,vB y3.bad])] [rB 87 [vL g_v_ v_,vU 0] (vG [vI y3.depth,vI y3.tokens,vB y3.bad])] H2 (by decide) (by kernel_rfl) ⟨(nest_look_ok (g_v_:=g_v_) m _ _ _ hy3 _ (s0im s0nil (hS.im 0 rfl))),trivial⟩ fun _ _ H5 hb => ?_
 replace hS:=hS.below hb
 have hd:=hS.hand [] [0] rfl rfl
 refine m_stp [3,5] [(5,[],vG [vI y3.depth,vI y3.tokens,vB y3.bad])] H5 rfl rfl rfl rfl (o_alloc [vI 0,vI 0,vF] (z:=vG [vI 0,vI 0,vF]) hd (by kernel_rfl) rfl) (fun _ => rfl) fun _ _ v H8 hq => ?_
 obtain ⟨b6,rfl,hq⟩:=hq
 replace hS : SH M X w [eB b6 [vI 0,vI 0,vF],eI tyValue v_ g_v_] _:=hS.join [] [0] rfl rfl hq
 have hd:=hS.hand [0] [1] rfl rfl
 refine m_stp0 [3] [(3,[],vP b6)] H8 rfl rfl rfl (o_store [vI y3.depth,vI y3.tokens,vB y3.bad] H8 hd rfl rfl (by kernel_rfl) rfl rfl rfl) rfl fun _ _ H10 hq => ?_
 obtain ⟨_,hq⟩:=hq
 replace hS : SH M X w [eB b6 [vI y3.depth,vI y3.tokens,vB y3.bad],eI tyValue v_ g_v_] _:=hS.join [0] [1] rfl rfl hq
 apply wl_end rfl
 replace hS : SH M X w [eB b6 [vI y3.depth,vI y3.tokens,vB y3.bad]] _:=hS.sel [0] rfl
 apply w_block
 refine s_reg [(vI y3.depth)] [3,6] (fS [3,6] [vP b6,vB (decide (16 < y3.depth))]) [rA b6 0 (vI y3.depth)] H10 (by kernel_rfl) ⟨((hS.bk 0 rfl).at1 rfl),trivial⟩ fun _ _ H12 hb => ?_
 replace hS:=hS.below hb
 refine w_if H12 rfl (fun hc => ?c27) (fun hc => ?_)
 case c27 =>
  replace hm:=bT hc hm
  refine s_reg [] [2] [(2,[],vI 20)] [] H12 (by kernel_rfl) trivial fun _ _ H14 hb => ?_
  replace hS:=hS.below hb
  replace hS : SH M X w [] _:=hS.sel [] rfl
  apply w_ret
  obtain rfl:=someE hm
  exact retR1 H14 rfl rfl ⟨_,rfl,rfl,(hS.sel [] rfl)⟩
 replace hm:=bF hc hm
 refine s_reg [(vI y3.tokens)] [3,10] (fS [3,10] [vP b6,vB (decide (1500 < y3.tokens))]) [rA b6 1 (vI y3.tokens)] H12 (by kernel_rfl) ⟨((hS.bk 0 rfl).at1 rfl),trivial⟩ fun _ _ H16 hb => ?_
 replace hS:=hS.below hb
 refine w_if H16 rfl (fun hc => ?c26) (fun hc => ?_)
 case c26 =>
  replace hm:=bT hc hm
  refine s_reg [] [2] [(2,[],vI 4)] [] H16 (by kernel_rfl) trivial fun _ _ H18 hb => ?_
  replace hS:=hS.below hb
  replace hS : SH M X w [] _:=hS.sel [] rfl
  apply w_ret
  obtain rfl:=someE hm
  exact retR1 H18 rfl rfl ⟨_,rfl,rfl,(hS.sel [] rfl)⟩
 replace hm:=bF hc hm
 refine s_reg [(vB y3.bad)] [14] [(14,[],vB y3.bad)] [rA b6 2 (vB y3.bad)] H16 (by kernel_rfl) ⟨((hS.bk 0 rfl).at1 rfl),trivial⟩ fun _ _ H20 hb => ?_
 replace hS:=hS.below hb
 replace hS : SH M X w [] _:=hS.sel [] rfl
 refine w_if H20 rfl (fun hc => ?c25) (fun hc => ?_)
 case c25 =>
  replace hm:=bT hc hm
  refine s_reg [] [2] [(2,[],vI 8)] [] H20 (by kernel_rfl) trivial fun _ _ H22 hb => ?_
  replace hS:=hS.below hb
  apply w_ret
  obtain rfl:=someE hm
  exact retR1 H22 rfl rfl ⟨_,rfl,rfl,(hS.sel [] rfl)⟩
 replace hm:=bF hc hm
 apply w_skip
 refine s_reg [] [2] [(2,[],vI 0)] [] H20 (by kernel_rfl) trivial fun _ _ H24 hb => ?_
 replace hS:=hS.below hb
 apply w_ret
 obtain rfl:=someE hm
 exact retR1 H24 rfl rfl ⟨_,rfl,rfl,(hS.sel [] rfl)⟩
theorem nest_Check_ok {g_v_ : Gh} (m : Nat) (v_ : List TValue) (r : Int) (hm : nest_Check m v_ = some r) (w : World) (hL : S0 F0 [eI tyValue v_ g_v_] w ∧ fpl [eI tyValue v_ g_v_] = []) : RetB Tryz.prog 71 ⟨[vL g_v_ v_]⟩ (vI r) w:=retB_of hL (Tryz.call71 _) (fun w' h => nest_Check_w F0 m   v_ r hm w' h)

theorem short_Names_w  (M : Av)  (r : List Str) (hm : short_Names = r) (w : World) (hS : S0 M [] w) : Calls Tryz.prog 99 ⟨[]⟩ w (fun e w' => ∃ v,e = .returned v ∧ ∃ (g901 : Gh),v = vL g901 r ∧ SH M (fpl []) w [eO 9 tS r g901] w'):=by
 rw [short_Names] at hm
 have hS0 : SH M (fpl []) w [] w:=hS
 generalize hX : fpl [] = X at hS0 ⊢
 clear hS hX
 have hS:=hS0
 clear hS0
 refine calls_entryP Tryz.func99 rfl Tryz.ntmps99 rfl fun _ H => ?_
 refine s_reg [] [] [] [] H (by kernel_rfl) trivial fun _ _ H2 hb => ?_
 replace hS:=hS.below hb
 apply w_seq
 apply wl_start
 have hd:=hS.hand [] [] rfl rfl
 refine m_stp [1] [] H2 rfl rfl rfl rfl (o_lit (T:=tS) (E:=9) (zv:=vN) [vS [109,97,114,103,105,110],vS [98,111,114,100,101,114],vS [111,117,116,108,105,110,101],vS [98,97,99,107,103,114,111,117,110,100]] kL9 [gL [],gL [],gL [],gL []] _ H2 hd rfl (by kernel_rfl) (by kernel_rfl) (by kernel_rfl) (by kernel_rfl) (by kernel_rfl) (by kernel_rfl) (by kernel_rfl) rfl (InnL.cons trivial (InnL.cons trivial (InnL.cons trivial (InnL.cons trivial InnL.nil))))) (fun _ => rfl) fun _ _ v H6 hq => ?_
 obtain ⟨g3,rfl,hq⟩:=hq
 replace hS : SH M X w [eO 9 tS kL9 g3] _:=hS.join [] [] rfl rfl hq
 refine wl_batch 1 2 [] [0] [(0,[],vK g3 4)] [] H6 (by decide) (by kernel_rfl) trivial fun _ _ H8 hb => ?_
 replace hS:=hS.below hb
 apply wl_end rfl
 apply w_ret
 subst hm
 exact retR1 H8 rfl rfl ⟨_,rfl,g3,rfl,(hS.sel [0] rfl)⟩
theorem short_Names_ok   (r : List Str) (hm : short_Names = r) (M : Av) (w : World) (hS : S0 M [] w) : DoesX Tryz.prog 99 ⟨[]⟩ w (fun v w' => ∃ (g901 : Gh),v = vL g901 r ∧ SH M (fpl []) w [eO 9 tS r g901] w'):=⟨Tryz.call99 _,short_Names_w M    r hm w hS⟩

theorem slices_Index_string_string_w {g_s : Gh} (M : Av) (m : Nat) (s : List Str) (v_ : Str) (r : Int) (hm : slices_Index_string_string m s v_ = some r) (w : World) (hS : S0 M [eI tS s g_s] w) : Calls Tryz.prog 53 ⟨[vL g_s s,vS v_]⟩ w (fun e w' => ∃ v,e = .returned v ∧ v = vI r ∧ SH M (fpl [eI tS s g_s]) w [] w'):=by
 rw [slices_Index_string_string] at hm
 have hS0 : SH M (fpl [eI tS s g_s]) w [eI tS s g_s] w:=hS
 generalize hX : fpl [eI tS s g_s] = X at hS0 ⊢
 clear hS hX
 have hS:=hS0
 clear hS0
 refine calls_entryP Tryz.func53 rfl Tryz.ntmps53 rfl fun _ H => ?_
 refine s_reg [] [0,1] (fS [0,1] [vL g_s s,vS v_]) [] H (by kernel_rfl) trivial fun _ _ H2 hb => ?_
 replace hS:=hS.below hb
 obtain ⟨z3,hz,hm_z3⟩:=bindE hm
 refine w_cut (fun a' w' => ∃ s_z3 : Unit,z3 = Sum.inr s_z3 ∧ Fr 19 [] a' ∧ SH M X w [eI tS s g_s] w') ?_ ?_
 ·replace hm:=hz
  refine s_reg [] [0,1,7,8] (fS [0,1,7,8] [vL g_s s,vS v_,vI (ln s),vI 0]) [] H2 (by kernel_rfl) trivial fun _ _ H5 hb => ?_
  replace hS:=hS.below hb
  apply w_block
  refine w_loop (fun kk a' w' => ∃ (v6 : Int),slices_Index_string_string_L1 m s v_ kk v6 = some _ ∧ Fr 19 (fS [0,1,7,8] [vL g_s s,vS v_,vI (ln s),vI v6]) a' ∧ SH M X w [eI tS s g_s] w') ⟨_,0,hm,FrG.keep (ks:=[0,1,7,8]) H5 (by kernel_rfl),hS⟩ ?_
  clear hm H5 hS
  rintro kk _ _ ⟨v6,hm,H,hS⟩
  cases kk with
  | zero => exact noneE hm
  | succ kk =>
   rw [slices_Index_string_string_L1] at hm
   refine s_reg [] [0,1,7,8,9] (fS [0,1,7,8,9] [vL g_s s,vS v_,vI (ln s),vI v6,vB (decide (v6 < (ln s)))]) [] H (by kernel_rfl) trivial fun _ _ H8 hb => ?_
   replace hS:=hS.below hb
   apply w_seq
   refine w_if H8 rfl (fun hc => ?_) (fun hc => ?c19)
   case c19 =>
    replace hm:=bF hc hm
    apply w_exit rfl
    obtain rfl:=someE hm
    exact ⟨_,rfl,FrG.keep (ks:=[]) H8 (by kernel_rfl),hS⟩
   replace hm:=bT hc hm
   apply w_skip
   apply w_seq
   apply w_block
   refine s_reg [] [0,1,5,7,8] (fS [0,1,5,7,8] [vL g_s s,vS v_,vI v6,vI (ln s),vI v6]) [] H8 (by kernel_rfl) trivial fun _ _ H10 hb => ?_
   replace hS:=hS.below hb
   obtain ⟨ho11,hm⟩:=chkE hm
   refine s_reg [(vS (gi s v6))] [0,1,5,7,8,16] (fS [0,1,5,7,8,16] [vL g_s s,vS v_,vI v6,vI (ln s),vI v6,vB (v_ == (gi s v6))]) [fun _ => oka g_s.a ∧ 0 ≤ v6 ∧ v6 < ln s,fun wz => V.at1 ⟨ab g_s.a,ao g_s.a + (v6).toNat * 1,none⟩ (vS (gi s v6)) wz] H10 (by kernel_rfl) ⟨((hS.im 0 rfl).oki ho11),((hS.im 0 rfl).at1 ho11 0 rfl),trivial⟩ fun _ _ H13 hb => ?_
   replace hS:=hS.below hb
   refine w_if H13 rfl (fun hc => ?_) (fun hc => ?c18)
   case c18 =>
    replace hm:=bF hc hm
    apply w_skip
    refine w_reg [] [0,1,7,8] (fS [0,1,7,8] [vL g_s s,vS v_,vI (ln s),vI (w64 (v6 + 1))]) [] H13 (by kernel_rfl) trivial fun _ _ H17 hb => ?_
    replace hS:=hS.below hb
    exact ⟨_,Nat.lt_succ_self _,w64 (v6 + 1),hm,FrG.keep (ks:=[0,1,7,8]) H17 (by kernel_rfl),hS⟩
   replace hm:=bT hc hm
   refine s_reg [] [4] [(4,[],vI v6)] [] H13 (by kernel_rfl) trivial fun _ _ H15 hb => ?_
   replace hS:=hS.below hb
   apply w_ret
   obtain rfl:=someE hm
   have hm:=hm_z3
   obtain rfl:=someE hm
   exact retR1 H15 rfl rfl ⟨_,rfl,rfl,(hS.sel [] rfl)⟩
 ·rintro _ _ ⟨s_z3,hz,H,hS⟩
  subst hz
  replace hm:=sumR hm_z3
  replace hS : SH M X w [] _:=hS.sel [] rfl
  refine s_reg [] [4] [(4,[],vI (-1))] [] H (by kernel_rfl) trivial fun _ _ H22 hb => ?_
  replace hS:=hS.below hb
  apply w_ret
  obtain rfl:=someE hm
  exact retR1 H22 rfl rfl ⟨_,rfl,rfl,(hS.sel [] rfl)⟩
theorem slices_Index_string_string_ok {g_s : Gh} (m : Nat) (s : List Str) (v_ : Str) (r : Int) (hm : slices_Index_string_string m s v_ = some r) (w : World) (hL : S0 F0 [eI tS s g_s] w ∧ fpl [eI tS s g_s] = []) : RetB Tryz.prog 53 ⟨[vL g_s s,vS v_]⟩ (vI r) w:=retB_of hL (Tryz.call53 _) (fun w' h => slices_Index_string_string_w F0 m   s v_ r hm w' h)

theorem slices_Contains_string_string_w {g_s : Gh} (M : Av) (m : Nat) (s : List Str) (v_ : Str) (r : Bool) (hm : slices_Contains_string_string m s v_ = some r) (w : World) (hS : S0 M [eI tS s g_s] w) : Calls Tryz.prog 30 ⟨[vL g_s s,vS v_]⟩ w (fun e w' => ∃ v,e = .returned v ∧ v = vB r ∧ SH M (fpl [eI tS s g_s]) w [] w'):=by
 rw [slices_Contains_string_string] at hm
 have hS0 : SH M (fpl [eI tS s g_s]) w [eI tS s g_s] w:=hS
 generalize hX : fpl [eI tS s g_s] = X at hS0 ⊢
 clear hS hX
 have hS:=hS0
 clear hS0
 refine calls_entryP Tryz.func30 rfl Tryz.ntmps30 rfl fun _ H => ?_
 refine s_reg [] [0,1] (fS [0,1] [vL g_s s,vS v_]) [] H (by kernel_rfl) trivial fun _ _ H2 hb => ?_
 replace hS:=hS.below hb
 obtain ⟨y3,hy3,hm⟩:=bindE hm
 refine s_reg [(vI y3)] [4] [(4,[],vB (decide (0 ≤ y3)))] [rB 53 [vL g_s s,vS v_] (vI y3)] H2 (by kernel_rfl) ⟨(slices_Index_string_string_ok (g_s:=g_s) m _ _ _ hy3 _ (s0im s0nil (hS.im 0 rfl))),trivial⟩ fun _ _ H5 hb => ?_
 replace hS:=hS.below hb
 replace hS : SH M X w [] _:=hS.sel [] rfl
 apply w_ret
 obtain rfl:=someE hm
 exact retR1 H5 rfl rfl ⟨_,rfl,rfl,(hS.sel [] rfl)⟩
theorem slices_Contains_string_string_ok {g_s : Gh} (m : Nat) (s : List Str) (v_ : Str) (r : Bool) (hm : slices_Contains_string_string m s v_ = some r) (w : World) (hL : S0 F0 [eI tS s g_s] w ∧ fpl [eI tS s g_s] = []) : RetB Tryz.prog 30 ⟨[vL g_s s,vS v_]⟩ (vB r) w:=retB_of hL (Tryz.call30 _) (fun w' h => slices_Contains_string_string_w F0 m   s v_ r hm w' h)

theorem short_of_w  (M : Av) (m : Nat) (name_ : Str) (r : List Str) (hm : short_of m name_ = some r) (w : World) (hS : S0 M [] w) : Calls Tryz.prog 88 ⟨[vS name_]⟩ w (fun e w' => ∃ v,e = .returned v ∧ ∃ (g901 : Gh),v = vL g901 r ∧ SH M (fpl []) w [eO 9 tS r g901] w'):=by
 rw [short_of] at hm
 have hS0 : SH M (fpl []) w [] w:=hS
 generalize hX : fpl [] = X at hS0 ⊢
 clear hS hX
 have hS:=hS0
 clear hS0
 refine calls_entryP Tryz.func88 rfl Tryz.ntmps88 rfl fun _ H => ?_
 refine s_reg [] [0] [(0,[],vS name_)] [] H (by kernel_rfl) trivial fun _ _ H2 hb => ?_
 replace hS:=hS.below hb
 apply w_seq
 apply w_block
 apply w_seq
 apply wl_start
 obtain ⟨y3,hy3,hm⟩:=letE hm
 have hd:=hS.hand [] [] rfl rfl
 refine m_stp [7,0] [(0,[],vS name_)] H2 rfl rfl rfl rfl (o_callx H2 rfl rfl (short_Names_ok _ hy3.symm _ _ hd)) (fun _ => rfl) fun _ _ v H7 hq => ?_
 obtain ⟨g4,rfl,hq⟩:=hq
 replace hS : SH M X w [eO 9 tS y3 g4] _:=hS.join [] [] rfl rfl hq
 obtain ⟨y8,hy8,hm⟩:=bindE hm
 refine wl_batch 1 5 [(vB y8)] [0,6] (fS [0,6] [vS name_,vB (!y8)]) [rB 30 [vL g4 y3,vS name_] (vB y8)] H7 (by decide) (by kernel_rfl) ⟨(slices_Contains_string_string_ok (g_s:=g4) 64 _ _ _ hy8 _ (s0im s0nil (hS.osl 0 rfl))),trivial⟩ fun _ _ H10 hb => ?_
 replace hS:=hS.below hb
 apply wl_end rfl
 replace hS : SH M X w [] _:=hS.sel [] rfl
 refine w_if H10 rfl (fun hc => ?c70) (fun hc => ?_)
 case c70 =>
  replace hm:=bT hc hm
  refine s_reg [] [2] [(2,[],vO)] [] H10 (by kernel_rfl) trivial fun _ _ H12 hb => ?_
  replace hS:=hS.below hb
  apply w_ret
  obtain rfl:=someE hm
  replace hS : SH M X w [eO 9 tS ([] : List Str) (.nil)] _:=hS.addNil 9 tS
  exact retR1 H12 rfl rfl ⟨_,rfl,Gh.nil,rfl,(hS.sel [0] rfl)⟩
 replace hm:=bF hc hm
 obtain ⟨x14,hx14,hm⟩:=letE hm
 refine s_reg [] [0,11] (fS [0,11] [vS name_,vB x14]) [] H10 (by subst hx14; kernel_rfl) trivial fun _ _ H16 hb => ?_
 replace hS:=hS.below hb
 refine w_if H16 rfl (fun hc => ?c69) (fun hc => ?_)
 case c69 =>
  replace hm:=bT hc hm
  apply w_seq
  apply wl_start
  obtain ⟨ho17,hm⟩:=chkE hm
  refine wl_batch 0 2 [] [15] [(15,[],vS (name_ ++ [45,99,111,108,111,114]))] [fun _ => ln name_ + ln [45,99,111,108,111,114] ≤ 9223372036854775807] H16 (by decide) (by kernel_rfl) ⟨ho17,trivial⟩ fun _ _ H19 hb => ?_
  replace hS:=hS.below hb
  have hd:=hS.hand [] [] rfl rfl
  refine m_stp [16] [] H19 rfl rfl rfl rfl (o_lit (T:=tS) (E:=9) (zv:=vN) [vS (name_ ++ [45,99,111,108,111,114])] ([name_ ++ [45,99,111,108,111,114]] : List Str) [gL []] _ H19 hd rfl (by kernel_rfl) (by kernel_rfl) (by kernel_rfl) (by kernel_rfl) (by kernel_rfl) (by kernel_rfl) (by kernel_rfl) rfl (InnL.cons trivial InnL.nil)) (fun _ => rfl) fun _ _ v H23 hq => ?_
  obtain ⟨g20,rfl,hq⟩:=hq
  replace hS : SH M X w [eO 9 tS ([name_ ++ [45,99,111,108,111,114]] : List Str) g20] _:=hS.join [] [] rfl rfl hq
  refine wl_batch 3 4 [] [2] [(2,[],vK g20 1)] [] H23 (by decide) (by kernel_rfl) trivial fun _ _ H25 hb => ?_
  replace hS:=hS.below hb
  apply wl_end rfl
  apply w_ret
  obtain rfl:=someE hm
  exact retR1 H25 rfl rfl ⟨_,rfl,g20,rfl,(hS.sel [0] rfl)⟩
 replace hm:=bF hc hm
 apply w_skip
 refine s_reg [] [0,3] (fS [0,3] [vS name_,vO]) [] H16 (by kernel_rfl) trivial fun _ _ H27 hb => ?_
 replace hS:=hS.below hb
 obtain ⟨z28,hz,hm⟩:=bindE hm
 refine w_cut (fun a' w' => ∃ (g64 : Gh),Fr 32 [(3,[],vL g64 z28)] a' ∧ SH M X w [eO 9 tS z28 g64] w') ?_ ?_
 ·replace hm:=hz
  apply w_seq
  apply wl_start
  have hd:=hS.hand [] [] rfl rfl
  refine m_stp [17,0,3] (fS [0,3] [vS name_,vO]) H27 rfl rfl rfl rfl (o_lit (T:=tS) (E:=9) (zv:=vN) [vS [116,111,112],vS [114,105,103,104,116],vS [98,111,116,116,111,109],vS [108,101,102,116]] kL6 [gL [],gL [],gL [],gL []] _ H27 hd rfl (by kernel_rfl) (by kernel_rfl) (by kernel_rfl) (by kernel_rfl) (by kernel_rfl) (by kernel_rfl) (by kernel_rfl) rfl (InnL.cons trivial (InnL.cons trivial (InnL.cons trivial (InnL.cons trivial InnL.nil))))) (fun _ => rfl) fun _ _ v H32 hq => ?_
  obtain ⟨g29,rfl,hq⟩:=hq
  replace hS : SH M X w [eO 9 tS kL6 g29] _:=hS.join [] [] rfl rfl hq
  refine wl_batch 1 3 [] [0,3,17,18,19] (fS [0,3,17,18,19] [vS name_,vO,vK g29 4,vI 4,vI 0]) [] H32 (by decide) (by kernel_rfl) trivial fun _ _ H34 hb => ?_
  replace hS:=hS.below hb
  apply wl_end rfl
  apply w_block
  replace hS : SH M X w [eO 9 tS ([] : List Str) (.nil),eO 9 tS kL6 g29] _:=hS.addNil 9 tS
  refine w_loop (fun kk a' w' => ∃ (v36 : List Str) (v38 : Int) (g37 : Gh),short_of_L1 m name_ kk v36 v38 = some _ ∧ Fr 32 (fS [0,17,18,3,19] [vS name_,vK g29 4,vI 4,vL g37 v36,vI v38]) a' ∧ SH M X w [eO 9 tS v36 g37,eO 9 tS kL6 g29] w') ⟨_,([] : List Str),0,Gh.nil,hm,FrG.keep (ks:=[0,17,18,3,19]) H34 (by kernel_rfl),hS⟩ ?_
  clear hm H34 hS
  rintro kk _ _ ⟨v36,v38,g37,hm,H,hS⟩
  cases kk with
  | zero => exact noneE hm
  | succ kk =>
   rw [short_of_L1] at hm
   refine s_reg [] [0,3,17,18,19,20] (fS [0,3,17,18,19,20] [vS name_,vL g37 v36,vK g29 4,vI 4,vI v38,vB (decide (v38 < 4))]) [] H (by kernel_rfl) trivial fun _ _ H40 hb => ?_
   replace hS:=hS.below hb
   apply w_seq
   refine w_if H40 rfl (fun hc => ?_) (fun hc => ?c62)
   case c62 =>
    replace hm:=bF hc hm
    apply w_exit rfl
    obtain rfl:=someE hm
    replace hS : SH M X w [eO 9 tS v36 g37] _:=hS.sel [0] rfl
    exact ⟨g37,FrG.keep (ks:=[3]) H40 (by kernel_rfl),hS⟩
   replace hm:=bT hc hm
   apply w_skip
   apply w_seq
   apply w_block
   obtain ⟨ho41,hm⟩:=chkE hm
   obtain ⟨x42,hx42,hm⟩:=letE hm
   refine s_reg [(vS (gi kL6 v38))] [0,3,5,17,18,19] (fS [0,3,5,17,18,19] [vS name_,vL g37 v36,vS x42,vK g29 4,vI 4,vI v38]) [fun _ => oka g29.a ∧ 0 ≤ v38 ∧ v38 < ln kL6,fun wz => V.at1 ⟨ab g29.a,ao g29.a + (v38).toNat * 1,none⟩ (vS (gi kL6 v38)) wz] H40 (by subst hx42; kernel_rfl) ⟨((hS.osl 1 rfl).oki ho41),((hS.osl 1 rfl).at1 ho41 0 rfl),trivial⟩ fun _ _ H44 hb => ?_
   replace hS:=hS.below hb
   apply wl_start
   obtain ⟨ho45,hm⟩:=chkE hm
   obtain ⟨ho46,hm⟩:=chkE hm
   refine wl_batch 0 5 [] [0,17,18,19,23,27] (fS [0,17,18,19,23,27] [vS name_,vK g29 4,vI 4,vI v38,vL g37 v36,vS ((name_ ++ [45]) ++ x42)]) [fun _ => ln name_ + ln [45] ≤ 9223372036854775807,fun _ => ln (name_ ++ [45]) + ln x42 ≤ 9223372036854775807] H44 (by decide) (by kernel_rfl) ⟨ho45,ho46,trivial⟩ fun _ _ H48 hb => ?_
   replace hS:=hS.below hb
   have hd:=hS.hand [] [0,1] rfl rfl
   refine m_stp [28,0,17,18,19,23] (fS [0,17,18,19,23] [vS name_,vK g29 4,vI 4,vI v38,vL g37 v36]) H48 rfl rfl rfl rfl (o_lit (T:=tS) (E:=9) (zv:=vN) [vS ((name_ ++ [45]) ++ x42)] ([(name_ ++ [45]) ++ x42] : List Str) [gL []] _ H48 hd rfl (by kernel_rfl) (by kernel_rfl) (by kernel_rfl) (by kernel_rfl) (by kernel_rfl) (by kernel_rfl) (by kernel_rfl) rfl (InnL.cons trivial InnL.nil)) (fun _ => rfl) fun _ _ v H52 hq => ?_
   obtain ⟨g49,rfl,hq⟩:=hq
   replace hS : SH M X w [eO 9 tS ([(name_ ++ [45]) ++ x42] : List Str) g49,eO 9 tS v36 g37,eO 9 tS kL6 g29] _:=hS.join [] [0,1] rfl rfl hq
   obtain ⟨ho53,hm⟩:=chkE hm
   obtain ⟨q54,hq54,hm⟩:=letE hm
   have hd:=hS.hand [1,0] [2] rfl rfl
   refine m_stp [29,0,17,18,19] (fS [0,17,18,19] [vS name_,vK g29 4,vI 4,vI v38]) H52 rfl rfl rfl rfl (o_app2 (T:=tS) (zv:=vN) (g1:=g37) (g2:=g49) (l1:=v36) (l2:=([(name_ ++ [45]) ++ x42] : List Str)) q54 hq54.symm H52 hd rfl rfl rfl rfl rfl rfl rfl (by kernel_rfl) (by kernel_rfl) rfl rfl ho53) (fun _ => rfl) fun _ _ v H56 hq => ?_
   obtain ⟨g57,rfl,hq⟩:=hq
   replace hS : SH M X w [eO 9 tS q54 g57,eO 9 tS ([(name_ ++ [45]) ++ x42] : List Str) g49,eO 9 tS kL6 g29] _:=hS.join [1,0] [2] rfl rfl hq
   refine wl_batch 7 8 [] [0,3,17,18,19] (fS [0,3,17,18,19] [vS name_,vL g57 q54,vK g29 4,vI 4,vI v38]) [] H56 (by decide) (by kernel_rfl) trivial fun _ _ H59 hb => ?_
   replace hS:=hS.below hb
   apply wl_end rfl
   replace hS : SH M X w [eO 9 tS q54 g57,eO 9 tS kL6 g29] _:=hS.sel [0,2] rfl
   refine w_reg [] [0,3,17,18,19] (fS [0,3,17,18,19] [vS name_,vL g57 q54,vK g29 4,vI 4,vI (w64 (v38 + 1))]) [] H59 (by kernel_rfl) trivial fun _ _ H61 hb => ?_
   replace hS:=hS.below hb
   exact ⟨_,Nat.lt_succ_self _,q54,w64 (v38 + 1),g57,hm,FrG.keep (ks:=[0,17,18,3,19]) H61 (by kernel_rfl),hS⟩
 ·rintro _ _ ⟨g64,H,hS⟩
  refine s_reg [] [2] [(2,[],vL g64 z28)] [] H (by kernel_rfl) trivial fun _ _ H67 hb => ?_
  replace hS:=hS.below hb
  apply w_ret
  obtain rfl:=someE hm
  exact retR1 H67 rfl rfl ⟨_,rfl,g64,rfl,(hS.sel [0] rfl)⟩
theorem short_of_ok  (m : Nat) (name_ : Str) (r : List Str) (hm : short_of m name_ = some r) (M : Av) (w : World) (hS : S0 M [] w) : DoesX Tryz.prog 88 ⟨[vS name_]⟩ w (fun v w' => ∃ (g901 : Gh),v = vL g901 r ∧ SH M (fpl []) w [eO 9 tS r g901] w'):=⟨Tryz.call88 _,short_of_w M m   name_ r hm w hS⟩

theorem short_Longs_w  (M : Av) (m : Nat) (name_ : Str) (r : (List Str) × Int) (hm : short_Longs m name_ = some r) (w : World) (hS : S0 M [gE0] w) : Calls Tryz.prog 72 ⟨[vS name_]⟩ w (fun e w' => ∃ v,e = .returned v ∧ ∃ (g901 : Gh),v = vW [vL g901 r.1,vI r.2] ∧ SH M (fpl [gE0]) w [eO 9 tS r.1 g901] w'):=by
 rw [short_Longs] at hm
 have hS0 : SH M (fpl [gE0]) w [gE0] w:=hS
 generalize hX : fpl [gE0] = X at hS0 ⊢
 clear hS hX
 have hS:=hS0
 clear hS0
 refine calls_entryP Tryz.func72 rfl Tryz.ntmps72 rfl fun _ H => ?_
 refine s_reg [] [0] [(0,[],vS name_)] [] H (by kernel_rfl) trivial fun _ _ H2 hb => ?_
 replace hS:=hS.below hb
 apply w_seq
 apply w_seq
 apply wl_start
 refine wl_batch 0 1 [] [0,7] (fS [0,7] [vS name_,vS name_]) [] H2 (by decide) (by kernel_rfl) trivial fun _ _ H4 hb => ?_
 replace hS:=hS.below hb
 obtain ⟨y5,hy5,hm⟩:=bindE hm
 have hd:=hS.hand [] [0] rfl rfl
 refine m_stp [8,0] [(0,[],vS name_)] H4 rfl rfl rfl rfl (o_callx H4 rfl rfl (short_of_ok m _ _ hy5 _ _ hd)) (fun _ => rfl) fun _ _ v H9 hq => ?_
 obtain ⟨g6,rfl,hq⟩:=hq
 replace hS : SH M X w [eO 9 tS y5 g6,gE0] _:=hS.join [] [0] rfl rfl hq
 refine wl_batch 2 3 [] [0,4] (fS [0,4] [vS name_,vL g6 y5]) [] H9 (by decide) (by kernel_rfl) trivial fun _ _ H11 hb => ?_
 replace hS:=hS.below hb
 apply wl_end rfl
 refine s_reg [] [0,4,11] (fS [0,4,11] [vS name_,vL g6 y5,vB (decide (0 < (ln y5)))]) [] H11 (by kernel_rfl) trivial fun _ _ H13 hb => ?_
 replace hS:=hS.below hb
 refine w_if H13 rfl (fun hc => ?c33) (fun hc => ?_)
 case c33 =>
  replace hm:=bT hc hm
  refine s_reg [] [2,3] (fS [2,3] [vL g6 y5,vI 0]) [] H13 (by kernel_rfl) trivial fun _ _ H15 hb => ?_
  replace hS:=hS.below hb
  apply w_ret
  obtain rfl:=someE hm
  exact retR2 H15 rfl rfl rfl ⟨_,rfl,g6,rfl,(hS.sel [0] rfl)⟩
 replace hm:=bF hc hm
 apply w_skip
 apply w_seq
 obtain ⟨y16,hy16,hm⟩:=bindE hm
 refine s_reg [(vW [vB y16.1,vI y16.2])] [0,6] (fS [0,6] [vS name_,vI y16.2]) [rB 16 [vS name_] (vW [vB y16.1,vI y16.2])] H13 (by kernel_rfl) ⟨(props_Inherited_ok 64 _ _ hy16 _ (s0im s0nil (hS.im 1 rfl))),trivial⟩ fun _ _ H18 hb => ?_
 replace hS:=hS.below hb
 replace hS : SH M X w [gE0] _:=hS.sel [1] rfl
 refine s_reg [] [0,6,19] (fS [0,6,19] [vS name_,vI y16.2,vB (y16.2 != 0)]) [] H18 (by kernel_rfl) trivial fun _ _ H20 hb => ?_
 replace hS:=hS.below hb
 refine w_if H20 rfl (fun hc => ?c32) (fun hc => ?_)
 case c32 =>
  replace hm:=bT hc hm
  refine s_reg [] [2,3] (fS [2,3] [vO,vI y16.2]) [] H20 (by kernel_rfl) trivial fun _ _ H22 hb => ?_
  replace hS:=hS.below hb
  apply w_ret
  obtain rfl:=someE hm
  replace hS : SH M X w [eO 9 tS ([] : List Str) (.nil),gE0] _:=hS.addNil 9 tS
  exact retR2 H22 rfl rfl rfl ⟨_,rfl,Gh.nil,rfl,(hS.sel [0] rfl)⟩
 replace hm:=bF hc hm
 apply w_skip
 apply w_seq
 apply wl_start
 refine wl_batch 0 1 [] [21] [(21,[],vS name_)] [] H20 (by decide) (by kernel_rfl) trivial fun _ _ H25 hb => ?_
 replace hS:=hS.below hb
 have hd:=hS.hand [] [0] rfl rfl
 refine m_stp [22] [] H25 rfl rfl rfl rfl (o_lit (T:=tS) (E:=9) (zv:=vN) [vS name_] ([name_] : List Str) [gL []] _ H25 hd rfl (by kernel_rfl) (by kernel_rfl) (by kernel_rfl) (by kernel_rfl) (by kernel_rfl) (by kernel_rfl) (by kernel_rfl) rfl (InnL.cons trivial InnL.nil)) (fun _ => rfl) fun _ _ v H29 hq => ?_
 obtain ⟨g26,rfl,hq⟩:=hq
 replace hS : SH M X w [eO 9 tS ([name_] : List Str) g26,gE0] _:=hS.join [] [0] rfl rfl hq
 refine wl_batch 2 4 [] [2,3] (fS [2,3] [vK g26 1,vI 0]) [] H29 (by decide) (by kernel_rfl) trivial fun _ _ H31 hb => ?_
 replace hS:=hS.below hb
 apply wl_end rfl
 apply w_ret
 obtain rfl:=someE hm
 exact retR2 H31 rfl rfl rfl ⟨_,rfl,g26,rfl,(hS.sel [0] rfl)⟩
theorem short_Longs_ok  (m : Nat) (name_ : Str) (r : (List Str) × Int) (hm : short_Longs m name_ = some r) (M : Av) (w : World) (hS : S0 M [gE0] w) : DoesX Tryz.prog 72 ⟨[vS name_]⟩ w (fun v w' => ∃ (g901 : Gh),v = vW [vL g901 r.1,vI r.2] ∧ SH M (fpl [gE0]) w [eO 9 tS r.1 g901] w'):=⟨Tryz.call72 _,short_Longs_w M m   name_ r hm w hS⟩

theorem sorter_Check_w {g_d__0 : Gh} (M : Av) (m : Nat) (d_ : TDeclared) (r : Int) (hm : sorter_Check m d_ = some r) (w : World) (hS : S0 M [eI tyValue d_.Long.Value g_d__0,gE0] w) : Calls Tryz.prog 45 ⟨[vG [vS d_.Long.Name,vL g_d__0 d_.Long.Value,vS d_.Long.Whole,vB d_.Important,vU d_.Origin,vB d_.Attached,vI d_.Layer,vI d_.Weight.e0,vI d_.Weight.e1,vI d_.Weight.e2,vI d_.Order]]⟩ w (fun e w' => ∃ v,e = .returned v ∧ v = vI r ∧ SH M (fpl [eI tyValue d_.Long.Value g_d__0,gE0]) w [] w'):=by
 rw [sorter_Check] at hm
 have hS0 : SH M (fpl [eI tyValue d_.Long.Value g_d__0,gE0]) w [eI tyValue d_.Long.Value g_d__0,gE0] w:=hS
 generalize hX : fpl [eI tyValue d_.Long.Value g_d__0,gE0] = X at hS0 ⊢
 clear hS hX
 have hS:=hS0
 clear hS0
 refine calls_entryP Tryz.func45 rfl Tryz.ntmps45 rfl fun _ H => ?_
 apply w_seq
 apply wl_start
 have hd:=hS.hand [] [0,1] rfl rfl
 refine m_stp [1] [] H rfl rfl rfl rfl (o_box [vS d_.Long.Name,vL g_d__0 d_.Long.Value,vS d_.Long.Whole,vB d_.Important,vU d_.Origin,vB d_.Attached,vI d_.Layer,vI d_.Weight.e0,vI d_.Weight.e1,vI d_.Weight.e2,vI d_.Order] H hd rfl rfl) (fun _ => rfl) fun _ _ v H3 hq => ?_
 obtain ⟨b1,rfl,hq⟩:=hq
 replace hS : SH M X w [eB b1 [vS d_.Long.Name,vL g_d__0 d_.Long.Value,vS d_.Long.Whole,vB d_.Important,vU d_.Origin,vB d_.Attached,vI d_.Layer,vI d_.Weight.e0,vI d_.Weight.e1,vI d_.Weight.e2,vI d_.Order],eI tyValue d_.Long.Value g_d__0,gE0] _:=hS.join [] [0,1] rfl rfl hq
 refine wl_batch 1 2 [] [1] [(1,[],vP b1)] [] H3 (by decide) (by kernel_rfl) trivial fun _ _ H5 hb => ?_
 replace hS:=hS.below hb
 apply wl_end rfl
 apply w_seq
 obtain ⟨y6,hy6,hm⟩:=bindE hm
 refine s_reg [(vS d_.Long.Name),(vW [vB y6.1,vI y6.2])] [1,4] (fS [1,4] [vP b1,vI y6.2]) [rA b1 0 (vS d_.Long.Name),rB 16 [vS d_.Long.Name] (vW [vB y6.1,vI y6.2])] H5 (by kernel_rfl) ⟨((hS.bk 0 rfl).at1 rfl),(props_Inherited_ok 64 _ _ hy6 _ (s0im s0nil (hS.im 2 rfl))),trivial⟩ fun _ _ H8 hb => ?_
 replace hS:=hS.below hb
 obtain ⟨y9,hy9,hm⟩:=bindE hm
 refine s_reg [(vL g_d__0 d_.Long.Value),(vI y9)] [1,25] (fS [1,25] [vP b1,vB (cond (y6.2 != 0) true (y9 != 0))]) [fun wz => ((y6.2 != 0) = false ∧ True → V.at1 ⟨b1,1,none⟩ (vL g_d__0 d_.Long.Value) wz),fun wz => ((y6.2 != 0) = false ∧ True → RetB Tryz.prog 71 ⟨[vL g_d__0 d_.Long.Value]⟩ (vI y9) wz)] H8 (by kernel_rfl) ⟨fun hg => (hS.bk 0 rfl).at1 rfl,fun hg => nest_Check_ok (g_v_:=g_d__0) m _ _ (bF (hg.1) hy9) _ (s0im s0nil (hS.im 1 rfl)),trivial⟩ fun _ _ H11 hb => ?_
 replace hS:=hS.below hb
 refine w_if H11 rfl (fun hc => ?c72) (fun hc => ?_)
 case c72 =>
  replace hm:=bT hc hm
  refine s_reg [] [2] [(2,[],vI 8)] [] H11 (by kernel_rfl) trivial fun _ _ H13 hb => ?_
  replace hS:=hS.below hb
  replace hS : SH M X w [gE0] _:=hS.sel [2] rfl
  apply w_ret
  obtain rfl:=someE hm
  exact retR1 H13 rfl rfl ⟨_,rfl,rfl,(hS.sel [] rfl)⟩
 replace hm:=bF hc hm
 apply w_skip
 obtain ⟨z14,hz,hm_z14⟩:=bindE hm
 refine w_cut (fun a' w' => ∃ s_z14 : Unit,z14 = Sum.inr s_z14 ∧ Fr 105 [(1,[],vP b1)] a' ∧ SH M X w [eB b1 [vS d_.Long.Name,vL g_d__0 d_.Long.Value,vS d_.Long.Whole,vB d_.Important,vU d_.Origin,vB d_.Attached,vI d_.Layer,vI d_.Weight.e0,vI d_.Weight.e1,vI d_.Weight.e2,vI d_.Order],eI tyValue d_.Long.Value g_d__0,gE0] w') ?_ ?_
 ·replace hm:=hz
  refine s_reg [(vS d_.Long.Whole)] [1,5] (fS [1,5] [vP b1,vS d_.Long.Whole]) [rA b1 2 (vS d_.Long.Whole)] H11 (by kernel_rfl) ⟨((hS.bk 0 rfl).at1 rfl),trivial⟩ fun _ _ H16 hb => ?_
  replace hS:=hS.below hb
  refine s_reg [] [1,5,30] (fS [1,5,30] [vP b1,vS d_.Long.Whole,vB (!(d_.Long.Whole == []))]) [] H16 (by kernel_rfl) trivial fun _ _ H18 hb => ?_
  replace hS:=hS.below hb
  refine w_if H18 rfl (fun hc => ?_) (fun hc => ?c35)
  case c35 =>
   replace hm:=bF hc hm
   apply w_skip
   obtain rfl:=someE hm
   exact ⟨_,rfl,FrG.keep (ks:=[1]) H18 (by kernel_rfl),hS⟩
  replace hm:=bT hc hm
  apply w_seq
  apply wl_start
  refine wl_batch 0 1 [] [1,5,32] (fS [1,5,32] [vP b1,vS d_.Long.Whole,vS d_.Long.Whole]) [] H18 (by decide) (by kernel_rfl) trivial fun _ _ H20 hb => ?_
  replace hS:=hS.below hb
  obtain ⟨y21,hy21,hm⟩:=bindE hm
  have hd:=hS.hand [2] [0,1,2] rfl rfl
  refine m_stp [33,1,5] (fS [1,5] [vP b1,vS d_.Long.Whole]) H20 rfl rfl rfl rfl (o_callx H20 rfl rfl (short_Longs_ok 64 _ _ hy21 _ _ hd)) (fun _ => rfl) fun _ _ v H25 hq => ?_
  obtain ⟨g22,rfl,hq⟩:=hq
  replace hS : SH M X w [eO 9 tS y21.1 g22,eB b1 [vS d_.Long.Name,vL g_d__0 d_.Long.Value,vS d_.Long.Whole,vB d_.Important,vU d_.Origin,vB d_.Attached,vI d_.Layer,vI d_.Weight.e0,vI d_.Weight.e1,vI d_.Weight.e2,vI d_.Order],eI tyValue d_.Long.Value g_d__0,gE0] _:=hS.join [2] [0,1,2] rfl rfl hq
  refine wl_batch 2 7 [] [1,5,6,7] (fS [1,5,6,7] [vP b1,vS d_.Long.Whole,vL g22 y21.1,vI y21.2]) [] H25 (by decide) (by kernel_rfl) trivial fun _ _ H27 hb => ?_
  replace hS:=hS.below hb
  apply wl_end rfl
  obtain ⟨y28,hy28,hm⟩:=bindE hm
  obtain ⟨x29,hx29,hm⟩:=letE hm
  refine s_reg [(vS d_.Long.Name),(vB y28),(vS d_.Long.Name)] [1,52] (fS [1,52] [vP b1,vB x29]) [fun wz => ((y21.2 != 0) = false ∧ True → V.at1 ⟨b1,0,none⟩ (vS d_.Long.Name) wz),fun wz => ((y21.2 != 0) = false ∧ True → RetB Tryz.prog 30 ⟨[vL g22 y21.1,vS d_.Long.Name]⟩ (vB y28) wz),fun wz => ((cond (y21.2 != 0) true (!y28)) = false ∧ True → V.at1 ⟨b1,0,none⟩ (vS d_.Long.Name) wz)] H27 (by subst hx29; kernel_rfl) ⟨fun hg => (hS.bk 1 rfl).at1 rfl,fun hg => slices_Contains_string_string_ok (g_s:=g22) 64 _ _ _ (bF (hg.1) hy28) _ (s0im s0nil (hS.osl 0 rfl)),fun hg => (hS.bk 1 rfl).at1 rfl,trivial⟩ fun _ _ H31 hb => ?_
  replace hS:=hS.below hb
  replace hS : SH M X w [eB b1 [vS d_.Long.Name,vL g_d__0 d_.Long.Value,vS d_.Long.Whole,vB d_.Important,vU d_.Origin,vB d_.Attached,vI d_.Layer,vI d_.Weight.e0,vI d_.Weight.e1,vI d_.Weight.e2,vI d_.Order],eI tyValue d_.Long.Value g_d__0,gE0] _:=hS.sel [1,2,3] rfl
  refine w_if H31 rfl (fun hc => ?_) (fun hc => ?c34)
  case c34 =>
   replace hm:=bF hc hm
   apply w_skip
   obtain rfl:=someE hm
   exact ⟨_,rfl,FrG.keep (ks:=[1]) H31 (by kernel_rfl),hS⟩
  replace hm:=bT hc hm
  refine s_reg [] [2] [(2,[],vI 8)] [] H31 (by kernel_rfl) trivial fun _ _ H33 hb => ?_
  replace hS:=hS.below hb
  apply w_ret
  obtain rfl:=someE hm
  have hm:=hm_z14
  obtain rfl:=someE hm
  exact retR1 H33 rfl rfl ⟨_,rfl,rfl,(hS.sel [] rfl)⟩
 ·rintro _ _ ⟨s_z14,hz,H,hS⟩
  subst hz
  replace hm:=sumR hm_z14
  obtain ⟨z36,hz,hm_z36⟩:=bindE hm
  refine w_cut (fun a' w' => ∃ s_z36 : Unit,z36 = Sum.inr s_z36 ∧ Fr 105 [(1,[],vP b1)] a' ∧ SH M X w [eB b1 [vS d_.Long.Name,vL g_d__0 d_.Long.Value,vS d_.Long.Whole,vB d_.Important,vU d_.Origin,vB d_.Attached,vI d_.Layer,vI d_.Weight.e0,vI d_.Weight.e1,vI d_.Weight.e2,vI d_.Order],eI tyValue d_.Long.Value g_d__0,gE0] w') ?_ ?_
  ·replace hm:=hz
   refine s_reg [(vI d_.Layer),(vI d_.Order),(vI d_.Weight.e0),(vI d_.Weight.e1),(vI d_.Weight.e2)] [1,66,67] (fS [1,66,67] [vP b1,vG [vI d_.Layer,vI d_.Order,vI d_.Weight.e0,vI d_.Weight.e1,vI d_.Weight.e2],vI 0]) [rA b1 6 (vI d_.Layer),rA b1 10 (vI d_.Order),fun _ => 0 ≤ (0 : Int) ∧ (0 : Int) < 3,rA b1 7 (vI d_.Weight.e0),fun _ => 0 ≤ (1 : Int) ∧ (1 : Int) < 3,rA b1 8 (vI d_.Weight.e1),fun _ => 0 ≤ (2 : Int) ∧ (2 : Int) < 3,rA b1 9 (vI d_.Weight.e2)] H (by kernel_rfl) ⟨((hS.bk 0 rfl).at1 rfl),((hS.bk 0 rfl).at1 rfl),(show 0 ≤ (0 : Int) ∧ (0 : Int) < 3 from by decide),((hS.bk 0 rfl).at1 rfl),(show 0 ≤ (1 : Int) ∧ (1 : Int) < 3 from by decide),((hS.bk 0 rfl).at1 rfl),(show 0 ≤ (2 : Int) ∧ (2 : Int) < 3 from by decide),((hS.bk 0 rfl).at1 rfl),trivial⟩ fun _ _ H38 hb => ?_
   replace hS:=hS.below hb
   apply w_block
   refine w_loop (fun kk a' w' => ∃ (v39 : Int),sorter_Check_L1 m d_ kk v39 = some _ ∧ Fr 105 (fS [1,66,67] [vP b1,vG [vI d_.Layer,vI d_.Order,vI d_.Weight.e0,vI d_.Weight.e1,vI d_.Weight.e2],vI v39]) a' ∧ SH M X w [eB b1 [vS d_.Long.Name,vL g_d__0 d_.Long.Value,vS d_.Long.Whole,vB d_.Important,vU d_.Origin,vB d_.Attached,vI d_.Layer,vI d_.Weight.e0,vI d_.Weight.e1,vI d_.Weight.e2,vI d_.Order],eI tyValue d_.Long.Value g_d__0,gE0] w') ⟨_,0,hm,FrG.keep (ks:=[1,66,67]) H38 (by kernel_rfl),hS⟩ ?_
   clear hm H38 hS
   rintro kk _ _ ⟨v39,hm,H,hS⟩
   cases kk with
   | zero => exact noneE hm
   | succ kk =>
    rw [sorter_Check_L1] at hm
    refine s_reg [] [1,66,67,68] (fS [1,66,67,68] [vP b1,vG [vI d_.Layer,vI d_.Order,vI d_.Weight.e0,vI d_.Weight.e1,vI d_.Weight.e2],vI v39,vB (decide (v39 < 5))]) [] H (by kernel_rfl) trivial fun _ _ H41 hb => ?_
    replace hS:=hS.below hb
    apply w_seq
    refine w_if H41 rfl (fun hc => ?_) (fun hc => ?c54)
    case c54 =>
     replace hm:=bF hc hm
     apply w_exit rfl
     obtain rfl:=someE hm
     exact ⟨_,rfl,FrG.keep (ks:=[1]) H41 (by kernel_rfl),hS⟩
    replace hm:=bT hc hm
    apply w_skip
    apply w_seq
    apply w_block
    obtain ⟨ho42,hm⟩:=chkE hm
    obtain ⟨x43,hx43,hm⟩:=letE hm
    refine s_reg [] [1,9,66,67] (fS [1,9,66,67] [vP b1,vI x43,vG [vI d_.Layer,vI d_.Order,vI d_.Weight.e0,vI d_.Weight.e1,vI d_.Weight.e2],vI v39]) [fun _ => 0 ≤ v39 ∧ v39 < (5 : Int)] H41 (by subst hx43; kernel_rfl) ⟨ho42,trivial⟩ fun _ _ H45 hb => ?_
    replace hS:=hS.below hb
    obtain ⟨x46,hx46,hm⟩:=letE hm
    refine s_reg [] [1,66,67,75] (fS [1,66,67,75] [vP b1,vG [vI d_.Layer,vI d_.Order,vI d_.Weight.e0,vI d_.Weight.e1,vI d_.Weight.e2],vI v39,vB x46]) [] H45 (by subst hx46; kernel_rfl) trivial fun _ _ H48 hb => ?_
    replace hS:=hS.below hb
    refine w_if H48 rfl (fun hc => ?_) (fun hc => ?c53)
    case c53 =>
     replace hm:=bF hc hm
     apply w_skip
     refine w_reg [] [1,66,67] (fS [1,66,67] [vP b1,vG [vI d_.Layer,vI d_.Order,vI d_.Weight.e0,vI d_.Weight.e1,vI d_.Weight.e2],vI (w64 (v39 + 1))]) [] H48 (by kernel_rfl) trivial fun _ _ H52 hb => ?_
     replace hS:=hS.below hb
     exact ⟨_,Nat.lt_succ_self _,w64 (v39 + 1),hm,FrG.keep (ks:=[1,66,67]) H52 (by kernel_rfl),hS⟩
    replace hm:=bT hc hm
    refine s_reg [] [2] [(2,[],vI 8)] [] H48 (by kernel_rfl) trivial fun _ _ H50 hb => ?_
    replace hS:=hS.below hb
    apply w_ret
    obtain rfl:=someE hm
    have hm:=hm_z36
    obtain rfl:=someE hm
    exact retR1 H50 rfl rfl ⟨_,rfl,rfl,(hS.sel [] rfl)⟩
  ·rintro _ _ ⟨s_z36,hz,H,hS⟩
   subst hz
   replace hm:=sumR hm_z36
   apply w_seq
   apply w_block
   obtain ⟨x56,hx56,hm⟩:=letE hm
   refine s_reg [(vU d_.Origin),(vU d_.Origin)] [1,77] (fS [1,77] [vP b1,vB x56]) [rA b1 4 (vU d_.Origin),fun wz => ((decide (d_.Origin < 1)) = false ∧ True → V.at1 ⟨b1,4,none⟩ (vU d_.Origin) wz)] H (by subst hx56; kernel_rfl) ⟨((hS.bk 0 rfl).at1 rfl),fun hg => (hS.bk 0 rfl).at1 rfl,trivial⟩ fun _ _ H58 hb => ?_
   replace hS:=hS.below hb
   refine w_if H58 rfl (fun hc => ?c69) (fun hc => ?_)
   case c69 =>
    replace hm:=bT hc hm
    refine s_reg [] [2] [(2,[],vI 8)] [] H58 (by kernel_rfl) trivial fun _ _ H60 hb => ?_
    replace hS:=hS.below hb
    replace hS : SH M X w [gE0] _:=hS.sel [2] rfl
    apply w_ret
    obtain rfl:=someE hm
    exact retR1 H60 rfl rfl ⟨_,rfl,rfl,(hS.sel [] rfl)⟩
   replace hm:=bF hc hm
   obtain ⟨x61,hx61,hm⟩:=letE hm
   refine s_reg [(vB d_.Attached),(vU d_.Origin),(vI d_.Layer),(vG [vI d_.Weight.e0,vI d_.Weight.e1,vI d_.Weight.e2])] [86] [(86,[],vB x61)] [rA b1 5 (vB d_.Attached),fun wz => (d_.Attached = true ∧ True → V.at1 ⟨b1,4,none⟩ (vU d_.Origin) wz),fun wz => ((d_.Origin != 3) = false ∧ d_.Attached = true ∧ True → V.at1 ⟨b1,6,none⟩ (vI d_.Layer) wz),fun wz => ((cond (d_.Origin != 3) true (d_.Layer != 0)) = false ∧ d_.Attached = true ∧ True → V.atN b1 7 [vI d_.Weight.e0,vI d_.Weight.e1,vI d_.Weight.e2] 0 wz)] H58 (by subst hx61; kernel_rfl) ⟨((hS.bk 0 rfl).at1 rfl),fun hg => (hS.bk 0 rfl).at1 rfl,fun hg => (hS.bk 0 rfl).at1 rfl,fun hg => (hS.bk 0 rfl).atD rfl,trivial⟩ fun _ _ H63 hb => ?_
   replace hS:=hS.below hb
   replace hS : SH M X w [gE0] _:=hS.sel [2] rfl
   refine w_if H63 rfl (fun hc => ?c68) (fun hc => ?_)
   case c68 =>
    replace hm:=bT hc hm
    refine s_reg [] [2] [(2,[],vI 8)] [] H63 (by kernel_rfl) trivial fun _ _ H65 hb => ?_
    replace hS:=hS.below hb
    apply w_ret
    obtain rfl:=someE hm
    exact retR1 H65 rfl rfl ⟨_,rfl,rfl,(hS.sel [] rfl)⟩
   replace hm:=bF hc hm
   apply w_skip
   refine s_reg [] [2] [(2,[],vI 0)] [] H63 (by kernel_rfl) trivial fun _ _ H67 hb => ?_
   replace hS:=hS.below hb
   apply w_ret
   obtain rfl:=someE hm
   exact retR1 H67 rfl rfl ⟨_,rfl,rfl,(hS.sel [] rfl)⟩
theorem sorter_Check_ok {g_d__0 : Gh} (m : Nat) (d_ : TDeclared) (r : Int) (hm : sorter_Check m d_ = some r) (w : World) (hL : S0 F0 [eI tyValue d_.Long.Value g_d__0,gE0] w ∧ fpl [eI tyValue d_.Long.Value g_d__0,gE0] = []) : RetB Tryz.prog 45 ⟨[vG [vS d_.Long.Name,vL g_d__0 d_.Long.Value,vS d_.Long.Whole,vB d_.Important,vU d_.Origin,vB d_.Attached,vI d_.Layer,vI d_.Weight.e0,vI d_.Weight.e1,vI d_.Weight.e2,vI d_.Order]]⟩ (vI r) w:=retB_of hL (Tryz.call45 _) (fun w' h => sorter_Check_w F0 m   d_ r hm w' h)

theorem sorter_check_w {g_l_ : Gh} (M : Av) (m : Nat) (l_ : List TDeclared) (r : Int) (hm : sorter_check m l_ = some r) (w : World) (hS : S0 M [eI tyDeclared l_ g_l_,gE0] w) : Calls Tryz.prog 36 ⟨[vL g_l_ l_]⟩ w (fun e w' => ∃ v,e = .returned v ∧ v = vI r ∧ SH M (fpl [eI tyDeclared l_ g_l_,gE0]) w [] w'):=by
 rw [sorter_check] at hm
 have hS0 : SH M (fpl [eI tyDeclared l_ g_l_,gE0]) w [eI tyDeclared l_ g_l_,gE0] w:=hS
 generalize hX : fpl [eI tyDeclared l_ g_l_,gE0] = X at hS0 ⊢
 clear hS hX
 have hS:=hS0
 clear hS0
 refine calls_entryP Tryz.func36 rfl Tryz.ntmps36 rfl fun _ H => ?_
 refine s_reg [] [0] [(0,[],vL g_l_ l_)] [] H (by kernel_rfl) trivial fun _ _ H2 hb => ?_
 replace hS:=hS.below hb
 obtain ⟨z3,hz,hm_z3⟩:=bindE hm
 refine w_cut (fun a' w' => ∃ s_z3 : Unit,z3 = Sum.inr s_z3 ∧ Fr 18 [] a' ∧ SH M X w [eI tyDeclared l_ g_l_,gE0] w') ?_ ?_
 ·replace hm:=hz
  refine s_reg [] [6,7,8] (fS [6,7,8] [vL g_l_ l_,vI (ln l_),vI 0]) [] H2 (by kernel_rfl) trivial fun _ _ H5 hb => ?_
  replace hS:=hS.below hb
  apply w_block
  refine w_loop (fun kk a' w' => ∃ (v6 : Int),sorter_check_L1 m l_ kk v6 = some _ ∧ Fr 18 (fS [6,7,8] [vL g_l_ l_,vI (ln l_),vI v6]) a' ∧ SH M X w [eI tyDeclared l_ g_l_,gE0] w') ⟨_,0,hm,FrG.keep (ks:=[6,7,8]) H5 (by kernel_rfl),hS⟩ ?_
  clear hm H5 hS
  rintro kk _ _ ⟨v6,hm,H,hS⟩
  cases kk with
  | zero => exact noneE hm
  | succ kk =>
   rw [sorter_check_L1] at hm
   refine s_reg [] [6,7,8,9] (fS [6,7,8,9] [vL g_l_ l_,vI (ln l_),vI v6,vB (decide (v6 < (ln l_)))]) [] H (by kernel_rfl) trivial fun _ _ H8 hb => ?_
   replace hS:=hS.below hb
   apply w_seq
   refine w_if H8 rfl (fun hc => ?_) (fun hc => ?c27)
   case c27 =>
    replace hm:=bF hc hm
    apply w_exit rfl
    obtain rfl:=someE hm
    exact ⟨_,rfl,FrG.keep (ks:=[]) H8 (by kernel_rfl),hS⟩
   replace hm:=bT hc hm
   apply w_skip
   apply w_seq
   apply w_block
   apply w_seq
   apply wl_start
   obtain ⟨ho9,hm⟩:=chkE hm
   refine wl_batch 0 2 [(vG [vS (gi l_ v6).Long.Name,.slice (g_l_.s (v6).toNat 0).a (((gi l_ v6).Long.Value).length) (g_l_.s (v6).toNat 0).c,vS (gi l_ v6).Long.Whole,vB ((gi l_ v6).Important),vU ((gi l_ v6).Origin),vB ((gi l_ v6).Attached),vI ((gi l_ v6).Layer),vI ((gi l_ v6).Weight.e0),vI ((gi l_ v6).Weight.e1),vI ((gi l_ v6).Weight.e2),vI ((gi l_ v6).Order)])] [6,7,8,11] (fS [6,7,8,11] [vL g_l_ l_,vI (ln l_),vI v6,vG [vS (gi l_ v6).Long.Name,.slice (g_l_.s (v6).toNat 0).a (((gi l_ v6).Long.Value).length) (g_l_.s (v6).toNat 0).c,vS (gi l_ v6).Long.Whole,vB ((gi l_ v6).Important),vU ((gi l_ v6).Origin),vB ((gi l_ v6).Attached),vI ((gi l_ v6).Layer),vI ((gi l_ v6).Weight.e0),vI ((gi l_ v6).Weight.e1),vI ((gi l_ v6).Weight.e2),vI ((gi l_ v6).Order)]]) [fun _ => oka g_l_.a ∧ 0 ≤ v6 ∧ v6 < ln l_,fun wz => V.atN (ab g_l_.a) (ao g_l_.a + (v6).toNat * 11) [vS (gi l_ v6).Long.Name,.slice (g_l_.s (v6).toNat 0).a (((gi l_ v6).Long.Value).length) (g_l_.s (v6).toNat 0).c,vS (gi l_ v6).Long.Whole,vB ((gi l_ v6).Important),vU ((gi l_ v6).Origin),vB ((gi l_ v6).Attached),vI ((gi l_ v6).Layer),vI ((gi l_ v6).Weight.e0),vI ((gi l_ v6).Weight.e1),vI ((gi l_ v6).Weight.e2),vI ((gi l_ v6).Order)] 0 wz] H8 (by decide) (by kernel_rfl) ⟨((hS.im 0 rfl).oki ho9),((hS.im 0 rfl).atA ho9 0 rfl),trivial⟩ fun _ _ H11 hb => ?_
   replace hS:=hS.below hb
   have hd:=hS.hand [] [0,1] rfl rfl
   refine m_stp [4,6,7,8,11] (fS [6,7,8,11] [vL g_l_ l_,vI (ln l_),vI v6,vG [vS (gi l_ v6).Long.Name,.slice (g_l_.s (v6).toNat 0).a (((gi l_ v6).Long.Value).length) (g_l_.s (v6).toNat 0).c,vS (gi l_ v6).Long.Whole,vB ((gi l_ v6).Important),vU ((gi l_ v6).Origin),vB ((gi l_ v6).Attached),vI ((gi l_ v6).Layer),vI ((gi l_ v6).Weight.e0),vI ((gi l_ v6).Weight.e1),vI ((gi l_ v6).Weight.e2),vI ((gi l_ v6).Order)]]) H11 rfl rfl rfl rfl (o_alloc [vN,vO,vN,vF,vU 0,vF,vI 0,vI 0,vI 0,vI 0,vI 0] (z:=vG [vN,vO,vN,vF,vU 0,vF,vI 0,vI 0,vI 0,vI 0,vI 0]) hd (by kernel_rfl) rfl) (fun _ => rfl) fun _ _ v H14 hq => ?_
   obtain ⟨b12,rfl,hq⟩:=hq
   replace hS : SH M X w [eB b12 [vN,vO,vN,vF,vU 0,vF,vI 0,vI 0,vI 0,vI 0,vI 0],eI tyDeclared l_ g_l_,gE0] _:=hS.join [] [0,1] rfl rfl hq
   have hd:=hS.hand [0] [1,2] rfl rfl
   refine m_stp0 [4,6,7,8] (fS [4,6,7,8] [vP b12,vL g_l_ l_,vI (ln l_),vI v6]) H14 rfl rfl rfl (o_store [vS (gi l_ v6).Long.Name,.slice (g_l_.s (v6).toNat 0).a (((gi l_ v6).Long.Value).length) (g_l_.s (v6).toNat 0).c,vS (gi l_ v6).Long.Whole,vB ((gi l_ v6).Important),vU ((gi l_ v6).Origin),vB ((gi l_ v6).Attached),vI ((gi l_ v6).Layer),vI ((gi l_ v6).Weight.e0),vI ((gi l_ v6).Weight.e1),vI ((gi l_ v6).Weight.e2),vI ((gi l_ v6).Order)] H14 hd rfl rfl (by kernel_rfl) rfl rfl rfl) rfl fun _ _ H16 hq => ?_
   obtain ⟨_,hq⟩:=hq
   replace hS : SH M X w [eB b12 [vS (gi l_ v6).Long.Name,.slice (g_l_.s (v6).toNat 0).a (((gi l_ v6).Long.Value).length) (g_l_.s (v6).toNat 0).c,vS (gi l_ v6).Long.Whole,vB ((gi l_ v6).Important),vU ((gi l_ v6).Origin),vB ((gi l_ v6).Attached),vI ((gi l_ v6).Layer),vI ((gi l_ v6).Weight.e0),vI ((gi l_ v6).Weight.e1),vI ((gi l_ v6).Weight.e2),vI ((gi l_ v6).Order)],eI tyDeclared l_ g_l_,gE0] _:=hS.join [0] [1,2] rfl rfl hq
   apply wl_end rfl
   obtain ⟨y17,hy17,hm⟩:=bindE hm
   refine s_reg [(vG [vS (gi l_ v6).Long.Name,.slice (g_l_.s (v6).toNat 0).a (((gi l_ v6).Long.Value).length) (g_l_.s (v6).toNat 0).c,vS (gi l_ v6).Long.Whole,vB ((gi l_ v6).Important),vU ((gi l_ v6).Origin),vB ((gi l_ v6).Attached),vI ((gi l_ v6).Layer),vI ((gi l_ v6).Weight.e0),vI ((gi l_ v6).Weight.e1),vI ((gi l_ v6).Weight.e2),vI ((gi l_ v6).Order)]),(vI y17)] [5,6,7,8] (fS [5,6,7,8] [vI y17,vL g_l_ l_,vI (ln l_),vI v6]) [rN b12 0 [vS (gi l_ v6).Long.Name,.slice (g_l_.s (v6).toNat 0).a (((gi l_ v6).Long.Value).length) (g_l_.s (v6).toNat 0).c,vS (gi l_ v6).Long.Whole,vB ((gi l_ v6).Important),vU ((gi l_ v6).Origin),vB ((gi l_ v6).Attached),vI ((gi l_ v6).Layer),vI ((gi l_ v6).Weight.e0),vI ((gi l_ v6).Weight.e1),vI ((gi l_ v6).Weight.e2),vI ((gi l_ v6).Order)],rB 45 [vG [vS (gi l_ v6).Long.Name,.slice (g_l_.s (v6).toNat 0).a (((gi l_ v6).Long.Value).length) (g_l_.s (v6).toNat 0).c,vS (gi l_ v6).Long.Whole,vB ((gi l_ v6).Important),vU ((gi l_ v6).Origin),vB ((gi l_ v6).Attached),vI ((gi l_ v6).Layer),vI ((gi l_ v6).Weight.e0),vI ((gi l_ v6).Weight.e1),vI ((gi l_ v6).Weight.e2),vI ((gi l_ v6).Order)]] (vI y17)] H16 (by kernel_rfl) ⟨((hS.bk 0 rfl).atD rfl),(sorter_Check_ok (g_d__0:=(g_l_.s (v6).toNat 0)) m _ _ hy17 _ (s0im (s0im s0nil (hS.im 2 rfl)) (tyDeclared_i0 ((hS.im 1 rfl).el ho9)))),trivial⟩ fun _ _ H19 hb => ?_
   replace hS:=hS.below hb
   replace hS : SH M X w [eI tyDeclared l_ g_l_,gE0] _:=hS.sel [1,2] rfl
   refine s_reg [] [5,6,7,8,15] (fS [5,6,7,8,15] [vI y17,vL g_l_ l_,vI (ln l_),vI v6,vB (y17 != 0)]) [] H19 (by kernel_rfl) trivial fun _ _ H21 hb => ?_
   replace hS:=hS.below hb
   refine w_if H21 rfl (fun hc => ?_) (fun hc => ?c26)
   case c26 =>
    replace hm:=bF hc hm
    apply w_skip
    refine w_reg [] [6,7,8] (fS [6,7,8] [vL g_l_ l_,vI (ln l_),vI (w64 (v6 + 1))]) [] H21 (by kernel_rfl) trivial fun _ _ H25 hb => ?_
    replace hS:=hS.below hb
    exact ⟨_,Nat.lt_succ_self _,w64 (v6 + 1),hm,FrG.keep (ks:=[6,7,8]) H25 (by kernel_rfl),hS⟩
   replace hm:=bT hc hm
   refine s_reg [] [2] [(2,[],vI y17)] [] H21 (by kernel_rfl) trivial fun _ _ H23 hb => ?_
   replace hS:=hS.below hb
   apply w_ret
   obtain rfl:=someE hm
   have hm:=hm_z3
   obtain rfl:=someE hm
   exact retR1 H23 rfl rfl ⟨_,rfl,rfl,(hS.sel [] rfl)⟩
 ·rintro _ _ ⟨s_z3,hz,H,hS⟩
  subst hz
  replace hm:=sumR hm_z3
  replace hS : SH M X w [gE0] _:=hS.sel [1] rfl
  refine s_reg [] [2] [(2,[],vI 0)] [] H (by kernel_rfl) trivial fun _ _ H30 hb => ?_
  replace hS:=hS.below hb
  apply w_ret
  obtain rfl:=someE hm
  exact retR1 H30 rfl rfl ⟨_,rfl,rfl,(hS.sel [] rfl)⟩
theorem sorter_check_ok {g_l_ : Gh} (m : Nat) (l_ : List TDeclared) (r : Int) (hm : sorter_check m l_ = some r) (w : World) (hL : S0 F0 [eI tyDeclared l_ g_l_,gE0] w ∧ fpl [eI tyDeclared l_ g_l_,gE0] = []) : RetB Tryz.prog 36 ⟨[vL g_l_ l_]⟩ (vI r) w:=retB_of hL (Tryz.call36 _) (fun w' h => sorter_check_w F0 m   l_ r hm w' h)

theorem sorter_rank_w {g_d__0 : Gh} (M : Av) (d_ : TDeclared) (r : List Int) (hm : sorter_rank d_ = r) (w : World) (hS : S0 M [eI tyValue d_.Long.Value g_d__0] w) : Calls Tryz.prog 63 ⟨[vG [vS d_.Long.Name,vL g_d__0 d_.Long.Value,vS d_.Long.Whole,vB d_.Important,vU d_.Origin,vB d_.Attached,vI d_.Layer,vI d_.Weight.e0,vI d_.Weight.e1,vI d_.Weight.e2,vI d_.Order]]⟩ w (fun e w' => ∃ v,e = .returned v ∧ ∃ (g901 : Gh),v = vL g901 r ∧ SH M (fpl [eI tyValue d_.Long.Value g_d__0]) w [eO 3 (tI .i64) r g901] w'):=by
 rw [sorter_rank] at hm
 have hS0 : SH M (fpl [eI tyValue d_.Long.Value g_d__0]) w [eI tyValue d_.Long.Value g_d__0] w:=hS
 generalize hX : fpl [eI tyValue d_.Long.Value g_d__0] = X at hS0 ⊢
 clear hS hX
 have hS:=hS0
 clear hS0
 refine calls_entryP Tryz.func63 rfl Tryz.ntmps63 rfl fun _ H => ?_
 apply w_seq
 apply wl_start
 have hd:=hS.hand [] [0] rfl rfl
 refine m_stp [1] [] H rfl rfl rfl rfl (o_box [vS d_.Long.Name,vL g_d__0 d_.Long.Value,vS d_.Long.Whole,vB d_.Important,vU d_.Origin,vB d_.Attached,vI d_.Layer,vI d_.Weight.e0,vI d_.Weight.e1,vI d_.Weight.e2,vI d_.Order] H hd rfl rfl) (fun _ => rfl) fun _ _ v H3 hq => ?_
 obtain ⟨b1,rfl,hq⟩:=hq
 replace hS : SH M X w [eB b1 [vS d_.Long.Name,vL g_d__0 d_.Long.Value,vS d_.Long.Whole,vB d_.Important,vU d_.Origin,vB d_.Attached,vI d_.Layer,vI d_.Weight.e0,vI d_.Weight.e1,vI d_.Weight.e2,vI d_.Order],eI tyValue d_.Long.Value g_d__0] _:=hS.join [] [0] rfl rfl hq
 refine wl_batch 1 2 [] [1] [(1,[],vP b1)] [] H3 (by decide) (by kernel_rfl) trivial fun _ _ H5 hb => ?_
 replace hS:=hS.below hb
 apply wl_end rfl
 refine s_draw [(vU d_.Origin),(vI d_.Layer)] [1,3,4,5] (fS [1,3,4,5] [vP b1,vI (w64 d_.Origin),vI d_.Layer,vI 0]) [rA b1 4 (vU d_.Origin),rA b1 6 (vI d_.Layer)] H5 (by kernel_rfl) (by kernel_rfl) (by kernel_rfl) ⟨((hS.bk 0 rfl).at1 rfl),((hS.bk 0 rfl).at1 rfl),trivial⟩ fun _ _ H7 hb => ?_
 replace hS:=hS.below hb
 obtain ⟨z8,hz,hm⟩:=letE hm
 refine w_cut (fun a' w' => Fr 34 (fS [1,5,3,4] [vP b1,vI 0,vI z8.1,vI z8.2]) a' ∧ SH M X w [eB b1 [vS d_.Long.Name,vL g_d__0 d_.Long.Value,vS d_.Long.Whole,vB d_.Important,vU d_.Origin,vB d_.Attached,vI d_.Layer,vI d_.Weight.e0,vI d_.Weight.e1,vI d_.Weight.e2,vI d_.Order],eI tyValue d_.Long.Value g_d__0] w') ?_ ?_
 ·replace hm:=hz.symm
  refine s_reg [(vB d_.Important)] [1,3,4,5,12] (fS [1,3,4,5,12] [vP b1,vI (w64 d_.Origin),vI d_.Layer,vI 0,vB d_.Important]) [rA b1 3 (vB d_.Important)] H7 (by kernel_rfl) ⟨((hS.bk 0 rfl).at1 rfl),trivial⟩ fun _ _ H10 hb => ?_
  replace hS:=hS.below hb
  refine w_if H10 rfl (fun hc => ?_) (fun hc => ?c13)
  case c13 =>
   replace hm:=bF hc hm
   apply w_skip
   subst hm
   exact ⟨FrG.keep (ks:=[1,5,3,4]) H10 (by kernel_rfl),hS⟩
  replace hm:=bT hc hm
  refine w_reg [] [1,3,4,5] (fS [1,3,4,5] [vP b1,vI (w64 (7 - (w64 d_.Origin))),vI (w64 (1000000 - d_.Layer)),vI 0]) [] H10 (by kernel_rfl) trivial fun _ _ H12 hb => ?_
  replace hS:=hS.below hb
  subst hm
  exact ⟨FrG.keep (ks:=[1,5,3,4]) H12 (by kernel_rfl),hS⟩
 ·rintro _ _ ⟨H,hS⟩
  obtain ⟨z14,hz,hm⟩:=letE hm
  refine w_cut (fun a' w' => Fr 34 (fS [1,3,4,5] [vP b1,vI z8.1,vI z8.2,vI z14]) a' ∧ SH M X w [eB b1 [vS d_.Long.Name,vL g_d__0 d_.Long.Value,vS d_.Long.Whole,vB d_.Important,vU d_.Origin,vB d_.Attached,vI d_.Layer,vI d_.Weight.e0,vI d_.Weight.e1,vI d_.Weight.e2,vI d_.Order],eI tyValue d_.Long.Value g_d__0] w') ?_ ?_
  ·replace hm:=hz.symm
   refine s_reg [(vB d_.Attached)] [1,3,4,5,18] (fS [1,3,4,5,18] [vP b1,vI z8.1,vI z8.2,vI 0,vB d_.Attached]) [rA b1 5 (vB d_.Attached)] H (by kernel_rfl) ⟨((hS.bk 0 rfl).at1 rfl),trivial⟩ fun _ _ H16 hb => ?_
   replace hS:=hS.below hb
   refine w_if H16 rfl (fun hc => ?_) (fun hc => ?c19)
   case c19 =>
    replace hm:=bF hc hm
    apply w_skip
    subst hm
    exact ⟨FrG.keep (ks:=[1,3,4,5]) H16 (by kernel_rfl),hS⟩
   replace hm:=bT hc hm
   refine w_reg [] [1,3,4,5] (fS [1,3,4,5] [vP b1,vI z8.1,vI z8.2,vI 1]) [] H16 (by kernel_rfl) trivial fun _ _ H18 hb => ?_
   replace hS:=hS.below hb
   subst hm
   exact ⟨FrG.keep (ks:=[1,3,4,5]) H18 (by kernel_rfl),hS⟩
  ·rintro _ _ ⟨H,hS⟩
   apply w_seq
   apply wl_start
   refine wl_batch 0 14 [(vI d_.Weight.e0),(vI d_.Weight.e1),(vI d_.Weight.e2),(vI d_.Order)] [19,20,21,24,27,30,32] (fS [19,20,21,24,27,30,32] [vI z8.1,vI z14,vI z8.2,vI d_.Weight.e0,vI d_.Weight.e1,vI d_.Weight.e2,vI d_.Order]) [fun _ => 0 ≤ (0 : Int) ∧ (0 : Int) < 3,rA b1 7 (vI d_.Weight.e0),fun _ => 0 ≤ (1 : Int) ∧ (1 : Int) < 3,rA b1 8 (vI d_.Weight.e1),fun _ => 0 ≤ (2 : Int) ∧ (2 : Int) < 3,rA b1 9 (vI d_.Weight.e2),rA b1 10 (vI d_.Order)] H (by decide) (by kernel_rfl) ⟨(show 0 ≤ (0 : Int) ∧ (0 : Int) < 3 from by decide),((hS.bk 0 rfl).at1 rfl),(show 0 ≤ (1 : Int) ∧ (1 : Int) < 3 from by decide),((hS.bk 0 rfl).at1 rfl),(show 0 ≤ (2 : Int) ∧ (2 : Int) < 3 from by decide),((hS.bk 0 rfl).at1 rfl),((hS.bk 0 rfl).at1 rfl),trivial⟩ fun _ _ H21 hb => ?_
   replace hS:=hS.below hb
   have hd:=hS.hand [] [0,1] rfl rfl
   refine m_stp [33] [] H21 rfl rfl rfl rfl (o_lit (T:=(tI .i64)) (E:=3) (zv:=vI 0) [vI z8.1,vI z14,vI z8.2,vI d_.Weight.e0,vI d_.Weight.e1,vI d_.Weight.e2,vI d_.Order] ([z8.1,z14,z8.2,d_.Weight.e0,d_.Weight.e1,d_.Weight.e2,d_.Order] : List Int) [gL [],gL [],gL [],gL [],gL [],gL [],gL []] _ H21 hd rfl (by kernel_rfl) (by kernel_rfl) (by kernel_rfl) (by kernel_rfl) (by kernel_rfl) (by kernel_rfl) (by kernel_rfl) rfl (InnL.cons trivial (InnL.cons trivial (InnL.cons trivial (InnL.cons trivial (InnL.cons trivial (InnL.cons trivial (InnL.cons trivial InnL.nil)))))))) (fun _ => rfl) fun _ _ v H25 hq => ?_
   obtain ⟨g22,rfl,hq⟩:=hq
   replace hS : SH M X w [eO 3 (tI .i64) ([z8.1,z14,z8.2,d_.Weight.e0,d_.Weight.e1,d_.Weight.e2,d_.Order] : List Int) g22,eB b1 [vS d_.Long.Name,vL g_d__0 d_.Long.Value,vS d_.Long.Whole,vB d_.Important,vU d_.Origin,vB d_.Attached,vI d_.Layer,vI d_.Weight.e0,vI d_.Weight.e1,vI d_.Weight.e2,vI d_.Order],eI tyValue d_.Long.Value g_d__0] _:=hS.join [] [0,1] rfl rfl hq
   refine wl_batch 15 16 [] [2] [(2,[],vK g22 7)] [] H25 (by decide) (by kernel_rfl) trivial fun _ _ H27 hb => ?_
   replace hS:=hS.below hb
   apply wl_end rfl
   replace hS : SH M X w [eO 3 (tI .i64) ([z8.1,z14,z8.2,d_.Weight.e0,d_.Weight.e1,d_.Weight.e2,d_.Order] : List Int) g22] _:=hS.sel [0] rfl
   apply w_ret
   subst hm
   exact retR1 H27 rfl rfl ⟨_,rfl,g22,rfl,(hS.sel [0] rfl)⟩
theorem sorter_rank_ok {g_d__0 : Gh} (d_ : TDeclared) (r : List Int) (hm : sorter_rank d_ = r) (M : Av) (w : World) (hS : S0 M [eI tyValue d_.Long.Value g_d__0] w) : DoesX Tryz.prog 63 ⟨[vG [vS d_.Long.Name,vL g_d__0 d_.Long.Value,vS d_.Long.Whole,vB d_.Important,vU d_.Origin,vB d_.Attached,vI d_.Layer,vI d_.Weight.e0,vI d_.Weight.e1,vI d_.Weight.e2,vI d_.Order]]⟩ w (fun v w' => ∃ (g901 : Gh),v = vL g901 r ∧ SH M (fpl [eI tyValue d_.Long.Value g_d__0]) w [eO 3 (tI .i64) r g901] w'):=⟨Tryz.call63 _,sorter_rank_w M   d_ r hm w hS⟩

theorem cmp_isNaN_int_w  (M : Av) (x_ : Int) (r : Bool) (hm : cmp_isNaN_int x_ = r) (w : World) (hS : S0 M [] w) : Calls Tryz.prog 92 ⟨[vI x_]⟩ w (fun e w' => ∃ v,e = .returned v ∧ v = vB r ∧ SH M (fpl []) w [] w'):=by
 rw [cmp_isNaN_int] at hm
 have hS0 : SH M (fpl []) w [] w:=hS
 generalize hX : fpl [] = X at hS0 ⊢
 clear hS hX
 have hS:=hS0
 clear hS0
 refine calls_entryP Tryz.func92 rfl Tryz.ntmps92 rfl fun _ H => ?_
 refine s_reg [] [0] [(0,[],vI x_)] [] H (by kernel_rfl) trivial fun _ _ H2 hb => ?_
 replace hS:=hS.below hb
 refine s_reg [] [2] [(2,[],vB (x_ != x_))] [] H2 (by kernel_rfl) trivial fun _ _ H4 hb => ?_
 replace hS:=hS.below hb
 apply w_ret
 subst hm
 exact retR1 H4 rfl rfl ⟨_,rfl,rfl,(hS.sel [] rfl)⟩
theorem cmp_isNaN_int_ok  (x_ : Int) : Ret Tryz.prog 92 ⟨[vI x_]⟩ (vB (cmp_isNaN_int x_)):=retP_of (Tryz.call92 _) (fun w h => cmp_isNaN_int_w F0   x_ _ rfl w h)

theorem cmp_Compare_int_w  (M : Av) (x_ : Int) (y_ : Int) (r : Int) (hm : cmp_Compare_int x_ y_ = r) (w : World) (hS : S0 M [] w) : Calls Tryz.prog 80 ⟨[vI x_,vI y_]⟩ w (fun e w' => ∃ v,e = .returned v ∧ v = vI r ∧ SH M (fpl []) w [] w'):=by
 rw [cmp_Compare_int] at hm
 have hS0 : SH M (fpl []) w [] w:=hS
 generalize hX : fpl [] = X at hS0 ⊢
 clear hS hX
 have hS:=hS0
 clear hS0
 refine calls_entryP Tryz.func80 rfl Tryz.ntmps80 rfl fun _ H => ?_
 refine s_reg [] [0,1] (fS [0,1] [vI x_,vI y_]) [] H (by kernel_rfl) trivial fun _ _ H2 hb => ?_
 replace hS:=hS.below hb
 refine s_reg [(vB (cmp_isNaN_int x_))] [0,1,5] (fS [0,1,5] [vI x_,vI y_,vB (cmp_isNaN_int x_)]) [rB 92 [vI x_] (vB (cmp_isNaN_int x_))] H2 (by kernel_rfl) ⟨((cmp_isNaN_int_ok _).b),trivial⟩ fun _ _ H4 hb => ?_
 replace hS:=hS.below hb
 refine s_reg [(vB (cmp_isNaN_int y_))] [0,1,5,6] (fS [0,1,5,6] [vI x_,vI y_,vB (cmp_isNaN_int x_),vB (cmp_isNaN_int y_)]) [rB 92 [vI y_] (vB (cmp_isNaN_int y_))] H4 (by kernel_rfl) ⟨((cmp_isNaN_int_ok _).b),trivial⟩ fun _ _ H6 hb => ?_
 replace hS:=hS.below hb
 apply w_seq
 refine s_reg [] [0,1,6,11] (fS [0,1,6,11] [vI x_,vI y_,vB (cmp_isNaN_int y_),vB (cmp_isNaN_int x_)]) [] H6 (by kernel_rfl) trivial fun _ _ H8 hb => ?_
 replace hS:=hS.below hb
 refine w_if H8 rfl (fun hc => ?c33) (fun hc => ?_)
 case c33 =>
  replace hm:=bT hc hm
  apply w_seq
  refine s_reg [] [12] [(12,[],vB (cmp_isNaN_int y_))] [] H8 (by kernel_rfl) trivial fun _ _ H10 hb => ?_
  replace hS:=hS.below hb
  refine w_if H10 rfl (fun hc => ?c15) (fun hc => ?_)
  case c15 =>
   replace hm:=bT hc hm
   refine s_reg [] [4] [(4,[],vI 0)] [] H10 (by kernel_rfl) trivial fun _ _ H12 hb => ?_
   replace hS:=hS.below hb
   apply w_ret
   subst hm
   exact retR1 H12 rfl rfl ⟨_,rfl,rfl,(hS.sel [] rfl)⟩
  replace hm:=bF hc hm
  apply w_skip
  refine s_reg [] [4] [(4,[],vI (-1))] [] H10 (by kernel_rfl) trivial fun _ _ H14 hb => ?_
  replace hS:=hS.below hb
  apply w_ret
  subst hm
  exact retR1 H14 rfl rfl ⟨_,rfl,rfl,(hS.sel [] rfl)⟩
 replace hm:=bF hc hm
 apply w_skip
 apply w_seq
 refine s_reg [] [0,1,13] (fS [0,1,13] [vI x_,vI y_,vB (cmp_isNaN_int y_)]) [] H8 (by kernel_rfl) trivial fun _ _ H17 hb => ?_
 replace hS:=hS.below hb
 refine w_if H17 rfl (fun hc => ?c32) (fun hc => ?_)
 case c32 =>
  replace hm:=bT hc hm
  refine s_reg [] [4] [(4,[],vI 1)] [] H17 (by kernel_rfl) trivial fun _ _ H19 hb => ?_
  replace hS:=hS.below hb
  apply w_ret
  subst hm
  exact retR1 H19 rfl rfl ⟨_,rfl,rfl,(hS.sel [] rfl)⟩
 replace hm:=bF hc hm
 apply w_skip
 apply w_seq
 refine s_reg [] [0,1,16] (fS [0,1,16] [vI x_,vI y_,vB (decide (x_ < y_))]) [] H17 (by kernel_rfl) trivial fun _ _ H21 hb => ?_
 replace hS:=hS.below hb
 refine w_if H21 rfl (fun hc => ?c31) (fun hc => ?_)
 case c31 =>
  replace hm:=bT hc hm
  refine s_reg [] [4] [(4,[],vI (-1))] [] H21 (by kernel_rfl) trivial fun _ _ H23 hb => ?_
  replace hS:=hS.below hb
  apply w_ret
  subst hm
  exact retR1 H23 rfl rfl ⟨_,rfl,rfl,(hS.sel [] rfl)⟩
 replace hm:=bF hc hm
 apply w_skip
 apply w_seq
 refine s_reg [] [19] [(19,[],vB (decide (y_ < x_)))] [] H21 (by kernel_rfl) trivial fun _ _ H25 hb => ?_
 replace hS:=hS.below hb
 refine w_if H25 rfl (fun hc => ?c30) (fun hc => ?_)
 case c30 =>
  replace hm:=bT hc hm
  refine s_reg [] [4] [(4,[],vI 1)] [] H25 (by kernel_rfl) trivial fun _ _ H27 hb => ?_
  replace hS:=hS.below hb
  apply w_ret
  subst hm
  exact retR1 H27 rfl rfl ⟨_,rfl,rfl,(hS.sel [] rfl)⟩
 replace hm:=bF hc hm
 apply w_skip
 refine s_reg [] [4] [(4,[],vI 0)] [] H25 (by kernel_rfl) trivial fun _ _ H29 hb => ?_
 replace hS:=hS.below hb
 apply w_ret
 subst hm
 exact retR1 H29 rfl rfl ⟨_,rfl,rfl,(hS.sel [] rfl)⟩
theorem cmp_Compare_int_ok  (x_ : Int) (y_ : Int) : Ret Tryz.prog 80 ⟨[vI x_,vI y_]⟩ (vI (cmp_Compare_int x_ y_)):=retP_of (Tryz.call80 _) (fun w h => cmp_Compare_int_w F0   x_ y_ _ rfl w h)

theorem slices_Compare_int_int_w {g_s1 : Gh} {g_s2 : Gh} (M : Av) (m : Nat) (s1 : List Int) (s2 : List Int) (r : Int) (hm : slices_Compare_int_int m s1 s2 = some r) (w : World) (hS : S0 M [eI (tI .i64) s1 g_s1,eI (tI .i64) s2 g_s2] w) : Calls Tryz.prog 62 ⟨[vL g_s1 s1,vL g_s2 s2]⟩ w (fun e w' => ∃ v,e = .returned v ∧ v = vI r ∧ SH M (fpl [eI (tI .i64) s1 g_s1,eI (tI .i64) s2 g_s2]) w [] w'):=by
 rw [slices_Compare_int_int] at hm
 have hS0 : SH M (fpl [eI (tI .i64) s1 g_s1,eI (tI .i64) s2 g_s2]) w [eI (tI .i64) s1 g_s1,eI (tI .i64) s2 g_s2] w:=hS
 generalize hX : fpl [eI (tI .i64) s1 g_s1,eI (tI .i64) s2 g_s2] = X at hS0 ⊢
 clear hS hX
 have hS:=hS0
 clear hS0
 refine calls_entryP Tryz.func62 rfl Tryz.ntmps62 rfl fun _ H => ?_
 refine s_reg [] [0,1] (fS [0,1] [vL g_s1 s1,vL g_s2 s2]) [] H (by kernel_rfl) trivial fun _ _ H2 hb => ?_
 replace hS:=hS.below hb
 obtain ⟨z3,hz,hm_z3⟩:=bindE hm
 refine w_cut (fun a' w' => ∃ s_z3 : Unit,z3 = Sum.inr s_z3 ∧ Fr 36 (fS [0,1] [vL g_s1 s1,vL g_s2 s2]) a' ∧ SH M X w [eI (tI .i64) s1 g_s1,eI (tI .i64) s2 g_s2] w') ?_ ?_
 ·replace hm:=hz
  refine s_reg [] [0,1,9,10,11] (fS [0,1,9,10,11] [vL g_s1 s1,vL g_s2 s2,vL g_s1 s1,vI (ln s1),vI 0]) [] H2 (by kernel_rfl) trivial fun _ _ H5 hb => ?_
  replace hS:=hS.below hb
  apply w_block
  refine w_loop (fun kk a' w' => ∃ (v6 : Int),slices_Compare_int_int_L1 m s1 s2 kk v6 = some _ ∧ Fr 36 (fS [0,1,9,10,11] [vL g_s1 s1,vL g_s2 s2,vL g_s1 s1,vI (ln s1),vI v6]) a' ∧ SH M X w [eI (tI .i64) s1 g_s1,eI (tI .i64) s2 g_s2] w') ⟨_,0,hm,FrG.keep (ks:=[0,1,9,10,11]) H5 (by kernel_rfl),hS⟩ ?_
  clear hm H5 hS
  rintro kk _ _ ⟨v6,hm,H,hS⟩
  cases kk with
  | zero => exact noneE hm
  | succ kk =>
   rw [slices_Compare_int_int_L1] at hm
   refine s_reg [] [0,1,9,10,11,12] (fS [0,1,9,10,11,12] [vL g_s1 s1,vL g_s2 s2,vL g_s1 s1,vI (ln s1),vI v6,vB (decide (v6 < (ln s1)))]) [] H (by kernel_rfl) trivial fun _ _ H8 hb => ?_
   replace hS:=hS.below hb
   apply w_seq
   refine w_if H8 rfl (fun hc => ?_) (fun hc => ?c30)
   case c30 =>
    replace hm:=bF hc hm
    apply w_exit rfl
    obtain rfl:=someE hm
    exact ⟨_,rfl,FrG.keep (ks:=[0,1]) H8 (by kernel_rfl),hS⟩
   replace hm:=bT hc hm
   apply w_skip
   apply w_seq
   apply w_block
   obtain ⟨ho9,hm⟩:=chkE hm
   refine s_reg [(vI (gi s1 v6))] [0,1,5,6,9,10,11] (fS [0,1,5,6,9,10,11] [vL g_s1 s1,vL g_s2 s2,vI v6,vI (gi s1 v6),vL g_s1 s1,vI (ln s1),vI v6]) [fun _ => oka g_s1.a ∧ 0 ≤ v6 ∧ v6 < ln s1,fun wz => V.at1 ⟨ab g_s1.a,ao g_s1.a + (v6).toNat * 1,none⟩ (vI (gi s1 v6)) wz] H8 (by kernel_rfl) ⟨((hS.im 0 rfl).oki ho9),((hS.im 0 rfl).at1 ho9 0 rfl),trivial⟩ fun _ _ H11 hb => ?_
   replace hS:=hS.below hb
   apply w_seq
   refine s_reg [] [0,1,5,6,9,10,11,19] (fS [0,1,5,6,9,10,11,19] [vL g_s1 s1,vL g_s2 s2,vI v6,vI (gi s1 v6),vL g_s1 s1,vI (ln s1),vI v6,vB (decide ((ln s2) ≤ v6))]) [] H11 (by kernel_rfl) trivial fun _ _ H13 hb => ?_
   replace hS:=hS.below hb
   refine w_if H13 rfl (fun hc => ?c29) (fun hc => ?_)
   case c29 =>
    replace hm:=bT hc hm
    refine s_reg [] [4] [(4,[],vI 1)] [] H13 (by kernel_rfl) trivial fun _ _ H15 hb => ?_
    replace hS:=hS.below hb
    apply w_ret
    obtain rfl:=someE hm
    have hm:=hm_z3
    obtain rfl:=someE hm
    exact retR1 H15 rfl rfl ⟨_,rfl,rfl,(hS.sel [] rfl)⟩
   replace hm:=bF hc hm
   apply w_skip
   obtain ⟨ho16,hm⟩:=chkE hm
   refine s_reg [(vI (gi s2 v6))] [0,1,6,7,9,10,11] (fS [0,1,6,7,9,10,11] [vL g_s1 s1,vL g_s2 s2,vI (gi s1 v6),vI (gi s2 v6),vL g_s1 s1,vI (ln s1),vI v6]) [fun _ => oka g_s2.a ∧ 0 ≤ v6 ∧ v6 < ln s2,fun wz => V.at1 ⟨ab g_s2.a,ao g_s2.a + (v6).toNat * 1,none⟩ (vI (gi s2 v6)) wz] H13 (by kernel_rfl) ⟨((hS.im 1 rfl).oki ho16),((hS.im 1 rfl).at1 ho16 0 rfl),trivial⟩ fun _ _ H18 hb => ?_
   replace hS:=hS.below hb
   refine s_reg [(vI (cmp_Compare_int (gi s1 v6) (gi s2 v6)))] [0,1,8,9,10,11] (fS [0,1,8,9,10,11] [vL g_s1 s1,vL g_s2 s2,vI (cmp_Compare_int (gi s1 v6) (gi s2 v6)),vL g_s1 s1,vI (ln s1),vI v6]) [rB 80 [vI (gi s1 v6),vI (gi s2 v6)] (vI (cmp_Compare_int (gi s1 v6) (gi s2 v6)))] H18 (by kernel_rfl) ⟨((cmp_Compare_int_ok _ _).b),trivial⟩ fun _ _ H20 hb => ?_
   replace hS:=hS.below hb
   obtain ⟨x21,hx21,hm⟩:=letE hm
   refine s_reg [] [0,1,8,9,10,11,28] (fS [0,1,8,9,10,11,28] [vL g_s1 s1,vL g_s2 s2,vI (cmp_Compare_int (gi s1 v6) (gi s2 v6)),vL g_s1 s1,vI (ln s1),vI v6,vB x21]) [] H20 (by subst hx21; kernel_rfl) trivial fun _ _ H23 hb => ?_
   replace hS:=hS.below hb
   refine w_if H23 rfl (fun hc => ?_) (fun hc => ?c28)
   case c28 =>
    replace hm:=bF hc hm
    apply w_skip
    refine w_reg [] [0,1,9,10,11] (fS [0,1,9,10,11] [vL g_s1 s1,vL g_s2 s2,vL g_s1 s1,vI (ln s1),vI (w64 (v6 + 1))]) [] H23 (by kernel_rfl) trivial fun _ _ H27 hb => ?_
    replace hS:=hS.below hb
    exact ⟨_,Nat.lt_succ_self _,w64 (v6 + 1),hm,FrG.keep (ks:=[0,1,9,10,11]) H27 (by kernel_rfl),hS⟩
   replace hm:=bT hc hm
   refine s_reg [] [4] [(4,[],vI (cmp_Compare_int (gi s1 v6) (gi s2 v6)))] [] H23 (by kernel_rfl) trivial fun _ _ H25 hb => ?_
   replace hS:=hS.below hb
   apply w_ret
   obtain rfl:=someE hm
   have hm:=hm_z3
   obtain rfl:=someE hm
   exact retR1 H25 rfl rfl ⟨_,rfl,rfl,(hS.sel [] rfl)⟩
 ·rintro _ _ ⟨s_z3,hz,H,hS⟩
  subst hz
  replace hm:=sumR hm_z3
  apply w_seq
  refine s_reg [] [35] [(35,[],vB (decide ((ln s1) < (ln s2))))] [] H (by kernel_rfl) trivial fun _ _ H33 hb => ?_
  replace hS:=hS.below hb
  replace hS : SH M X w [] _:=hS.sel [] rfl
  refine w_if H33 rfl (fun hc => ?c38) (fun hc => ?_)
  case c38 =>
   replace hm:=bT hc hm
   refine s_reg [] [4] [(4,[],vI (-1))] [] H33 (by kernel_rfl) trivial fun _ _ H35 hb => ?_
   replace hS:=hS.below hb
   apply w_ret
   obtain rfl:=someE hm
   exact retR1 H35 rfl rfl ⟨_,rfl,rfl,(hS.sel [] rfl)⟩
  replace hm:=bF hc hm
  apply w_skip
  refine s_reg [] [4] [(4,[],vI 0)] [] H33 (by kernel_rfl) trivial fun _ _ H37 hb => ?_
  replace hS:=hS.below hb
  apply w_ret
  obtain rfl:=someE hm
  exact retR1 H37 rfl rfl ⟨_,rfl,rfl,(hS.sel [] rfl)⟩
theorem slices_Compare_int_int_ok {g_s1 : Gh} {g_s2 : Gh} (m : Nat) (s1 : List Int) (s2 : List Int) (r : Int) (hm : slices_Compare_int_int m s1 s2 = some r) (w : World) (hL : S0 F0 [eI (tI .i64) s1 g_s1,eI (tI .i64) s2 g_s2] w ∧ fpl [eI (tI .i64) s1 g_s1,eI (tI .i64) s2 g_s2] = []) : RetB Tryz.prog 62 ⟨[vL g_s1 s1,vL g_s2 s2]⟩ (vI r) w:=retB_of hL (Tryz.call62 _) (fun w' h => slices_Compare_int_int_w F0 m   s1 s2 r hm w' h)

theorem sorter_compare_w {g_a__0 : Gh} {g_b__0 : Gh} (M : Av) (m : Nat) (a_ : TDeclared) (b_ : TDeclared) (r : Int) (hm : sorter_compare m a_ b_ = some r) (w : World) (hS : S0 M [eI tyValue a_.Long.Value g_a__0,eI tyValue b_.Long.Value g_b__0] w) : Calls Tryz.prog 40 ⟨[vG [vS a_.Long.Name,vL g_a__0 a_.Long.Value,vS a_.Long.Whole,vB a_.Important,vU a_.Origin,vB a_.Attached,vI a_.Layer,vI a_.Weight.e0,vI a_.Weight.e1,vI a_.Weight.e2,vI a_.Order],vG [vS b_.Long.Name,vL g_b__0 b_.Long.Value,vS b_.Long.Whole,vB b_.Important,vU b_.Origin,vB b_.Attached,vI b_.Layer,vI b_.Weight.e0,vI b_.Weight.e1,vI b_.Weight.e2,vI b_.Order]]⟩ w (fun e w' => ∃ v,e = .returned v ∧ v = vI r ∧ SH M (fpl [eI tyValue a_.Long.Value g_a__0,eI tyValue b_.Long.Value g_b__0]) w [] w'):=by
 rw [sorter_compare] at hm
 have hS0 : SH M (fpl [eI tyValue a_.Long.Value g_a__0,eI tyValue b_.Long.Value g_b__0]) w [eI tyValue a_.Long.Value g_a__0,eI tyValue b_.Long.Value g_b__0] w:=hS
 generalize hX : fpl [eI tyValue a_.Long.Value g_a__0,eI tyValue b_.Long.Value g_b__0] = X at hS0 ⊢
 clear hS hX
 have hS:=hS0
 clear hS0
 refine calls_entryP Tryz.func40 rfl Tryz.ntmps40 rfl fun _ H => ?_
 apply w_seq
 apply wl_start
 have hd:=hS.hand [] [0,1] rfl rfl
 refine m_stp [2,1] [(1,[],vG [vS b_.Long.Name,vL g_b__0 b_.Long.Value,vS b_.Long.Whole,vB b_.Important,vU b_.Origin,vB b_.Attached,vI b_.Layer,vI b_.Weight.e0,vI b_.Weight.e1,vI b_.Weight.e2,vI b_.Order])] H rfl rfl rfl rfl (o_box [vS a_.Long.Name,vL g_a__0 a_.Long.Value,vS a_.Long.Whole,vB a_.Important,vU a_.Origin,vB a_.Attached,vI a_.Layer,vI a_.Weight.e0,vI a_.Weight.e1,vI a_.Weight.e2,vI a_.Order] H hd rfl rfl) (fun _ => rfl) fun _ _ v H3 hq => ?_
 obtain ⟨b1,rfl,hq⟩:=hq
 replace hS : SH M X w [eB b1 [vS a_.Long.Name,vL g_a__0 a_.Long.Value,vS a_.Long.Whole,vB a_.Important,vU a_.Origin,vB a_.Attached,vI a_.Layer,vI a_.Weight.e0,vI a_.Weight.e1,vI a_.Weight.e2,vI a_.Order],eI tyValue a_.Long.Value g_a__0,eI tyValue b_.Long.Value g_b__0] _:=hS.join [] [0,1] rfl rfl hq
 have hd:=hS.hand [] [0,1,2] rfl rfl
 refine m_stp [3,2] [(2,[],vP b1)] H3 rfl rfl rfl rfl (o_box [vS b_.Long.Name,vL g_b__0 b_.Long.Value,vS b_.Long.Whole,vB b_.Important,vU b_.Origin,vB b_.Attached,vI b_.Layer,vI b_.Weight.e0,vI b_.Weight.e1,vI b_.Weight.e2,vI b_.Order] H3 hd rfl rfl) (fun _ => rfl) fun _ _ v H6 hq => ?_
 obtain ⟨b4,rfl,hq⟩:=hq
 replace hS : SH M X w [eB b4 [vS b_.Long.Name,vL g_b__0 b_.Long.Value,vS b_.Long.Whole,vB b_.Important,vU b_.Origin,vB b_.Attached,vI b_.Layer,vI b_.Weight.e0,vI b_.Weight.e1,vI b_.Weight.e2,vI b_.Order],eB b1 [vS a_.Long.Name,vL g_a__0 a_.Long.Value,vS a_.Long.Whole,vB a_.Important,vU a_.Origin,vB a_.Attached,vI a_.Layer,vI a_.Weight.e0,vI a_.Weight.e1,vI a_.Weight.e2,vI a_.Order],eI tyValue a_.Long.Value g_a__0,eI tyValue b_.Long.Value g_b__0] _:=hS.join [] [0,1,2] rfl rfl hq
 refine wl_batch 2 3 [] [2,3] (fS [2,3] [vP b1,vP b4]) [] H6 (by decide) (by kernel_rfl) trivial fun _ _ H8 hb => ?_
 replace hS:=hS.below hb
 apply wl_end rfl
 obtain ⟨y10,hy10,hm⟩:=letE hm
 obtain ⟨y13,hy13,hm⟩:=letE hm
 obtain ⟨y16,hy16,hm⟩:=bindE hm
 refine s_drawS (base:=(fS [2,3] [vP b1,vP b4])) (L:=[eB b4 [vS b_.Long.Name,vL g_b__0 b_.Long.Value,vS b_.Long.Whole,vB b_.Important,vU b_.Origin,vB b_.Attached,vI b_.Layer,vI b_.Weight.e0,vI b_.Weight.e1,vI b_.Weight.e2,vI b_.Order],eB b1 [vS a_.Long.Name,vL g_a__0 a_.Long.Value,vS a_.Long.Whole,vB a_.Important,vU a_.Origin,vB a_.Attached,vI a_.Layer,vI a_.Weight.e0,vI a_.Weight.e1,vI a_.Weight.e2,vI a_.Order],eI tyValue a_.Long.Value g_a__0,eI tyValue b_.Long.Value g_b__0]) 6 4 (fun yg9 => [vG [vS a_.Long.Name,vL g_a__0 a_.Long.Value,vS a_.Long.Whole,vB a_.Important,vU a_.Origin,vB a_.Attached,vI a_.Layer,vI a_.Weight.e0,vI a_.Weight.e1,vI a_.Weight.e2,vI a_.Order],.slice (yg9 1 0).a y10.length (yg9 1 0).c,vG [vS b_.Long.Name,vL g_b__0 b_.Long.Value,vS b_.Long.Whole,vB b_.Important,vU b_.Origin,vB b_.Attached,vI b_.Layer,vI b_.Weight.e0,vI b_.Weight.e1,vI b_.Weight.e2,vI b_.Order],.slice (yg9 3 0).a y13.length (yg9 3 0).c,vI y16,vI y16]) (fun yg9 => [[],[eO 3 (tI .i64) y10 (yg9 1 0)],[],[eO 3 (tI .i64) y13 (yg9 3 0)],[],[]]) [[7,8],[8],[6,9],[9],[1,3],[]] [[],[],[],[],[],[]] [[0],[0,1],[2],[2,3],[0,1,2,3,4],[0,1,2,3,4,5]] [] (FrG.keep (ks:=[2,3]) H8 (by kernel_rfl)) (fun _ _ h => by cases h) (by kernel_rfl) hS (by kernel_rfl) rfl rfl (by kernel_rfl) (by kernel_rfl) (by kernel_rfl) (gd_none (by kernel_rfl) _ _) ?hloc_yg9 ?hstep_yg9 fun _ _ yg9 H18 hv hS => ?hK_yg9
 case hloc_yg9 => exact ⟨(fun _ _ _ _ => ⟨rfl,rfl⟩),(fun _ i g hi => lcG [1] (fun yg9 => (.slice (yg9 1 0).a y10.length (yg9 1 0).c,[eO 3 (tI .i64) y10 (yg9 1 0)])) hi rfl),(fun _ _ _ _ => ⟨rfl,rfl⟩),(fun _ i g hi => lcG [3] (fun yg9 => (.slice (yg9 3 0).a y13.length (yg9 3 0).c,[eO 3 (tI .i64) y13 (yg9 3 0)])) hi rfl),(fun _ _ _ _ => ⟨rfl,rfl⟩),(fun _ _ _ _ => ⟨rfl,rfl⟩),trivial⟩
 case hstep_yg9 =>
  refine ⟨?_,?_,?_,?_,?_,?_,trivial⟩
  ·intro o ho a w yg9 M Hb hv hO hS
   obtain rfl:=someE ho
   exact Stp.mono (o_evs [(vG [vS a_.Long.Name,vL g_a__0 a_.Long.Value,vS a_.Long.Whole,vB a_.Important,vU a_.Origin,vB a_.Attached,vI a_.Layer,vI a_.Weight.e0,vI a_.Weight.e1,vI a_.Weight.e2,vI a_.Order])] (vG [vS a_.Long.Name,vL g_a__0 a_.Long.Value,vS a_.Long.Whole,vB a_.Important,vU a_.Origin,vB a_.Attached,vI a_.Layer,vI a_.Weight.e0,vI a_.Weight.e1,vI a_.Weight.e2,vI a_.Order]) (some (rN b1 0 [vS a_.Long.Name,vL g_a__0 a_.Long.Value,vS a_.Long.Whole,vB a_.Important,vU a_.Origin,vB a_.Attached,vI a_.Layer,vI a_.Weight.e0,vI a_.Weight.e1,vI a_.Weight.e2,vI a_.Order])) [] Hb rfl (by kernel_rfl) (fun q e => by cases e; exact ((hS.bk 0 rfl).atD rfl))) fun _ _ hq => ⟨gL [],fun _ _ => hq.1,(hS.below hq.2.below).sel [0,1] rfl⟩
  ·intro o ho a w yg9 M Hb hv hO hS0
   obtain rfl:=someE ho
   have H : Fr 10 ([(5,[],vG [vS a_.Long.Name,vL g_a__0 a_.Long.Value,vS a_.Long.Whole,vB a_.Important,vU a_.Origin,vB a_.Attached,vI a_.Layer,vI a_.Weight.e0,vI a_.Weight.e1,vI a_.Weight.e2,vI a_.Order])] ++ (fS [2,3] [vP b1,vP b4])) _:=(Hb).add (hv 0 (by decide) (by decide) 5 rfl)
   obtain ⟨X,hX⟩ : ∃ X,X = fpl [eI tyValue a_.Long.Value g_a__0]:=⟨_,rfl⟩
   have hS : SH M X w [eI tyValue a_.Long.Value g_a__0] w:=by rw [hX]; exact hS0
   have hd:=hS.hand [0] [0] rfl rfl
   refine Stp.mono (o_callx H rfl rfl (sorter_rank_ok (g_d__0:=g_a__0) _ _ hy10.symm _ _ hd)) ?_
   rintro v w2 hq
   obtain ⟨g11,rfl,hq⟩:=hq
   replace hS : SH M X w [eO 3 (tI .i64) y10 g11,eI tyValue a_.Long.Value g_a__0] _:=hS.join [0] [0] rfl rfl hq
   rw [hX] at hS
   exact ⟨gL [g11],fun _ _ => rfl,hS.sel [0,1] rfl⟩
  ·intro o ho a w yg9 M Hb hv hO hS
   obtain rfl:=someE ho
   exact Stp.mono (o_evs [(vG [vS b_.Long.Name,vL g_b__0 b_.Long.Value,vS b_.Long.Whole,vB b_.Important,vU b_.Origin,vB b_.Attached,vI b_.Layer,vI b_.Weight.e0,vI b_.Weight.e1,vI b_.Weight.e2,vI b_.Order])] (vG [vS b_.Long.Name,vL g_b__0 b_.Long.Value,vS b_.Long.Whole,vB b_.Important,vU b_.Origin,vB b_.Attached,vI b_.Layer,vI b_.Weight.e0,vI b_.Weight.e1,vI b_.Weight.e2,vI b_.Order]) (some (rN b4 0 [vS b_.Long.Name,vL g_b__0 b_.Long.Value,vS b_.Long.Whole,vB b_.Important,vU b_.Origin,vB b_.Attached,vI b_.Layer,vI b_.Weight.e0,vI b_.Weight.e1,vI b_.Weight.e2,vI b_.Order])) [] Hb rfl (by kernel_rfl) (fun q e => by cases e; exact ((hS.bk 0 rfl).atD rfl))) fun _ _ hq => ⟨gL [],fun _ _ => hq.1,(hS.below hq.2.below).sel [0,1] rfl⟩
  ·intro o ho a w yg9 M Hb hv hO hS0
   obtain rfl:=someE ho
   have H : Fr 10 ([(7,[],vG [vS b_.Long.Name,vL g_b__0 b_.Long.Value,vS b_.Long.Whole,vB b_.Important,vU b_.Origin,vB b_.Attached,vI b_.Layer,vI b_.Weight.e0,vI b_.Weight.e1,vI b_.Weight.e2,vI b_.Order])] ++ (fS [2,3] [vP b1,vP b4])) _:=(Hb).add (hv 2 (by decide) (by decide) 7 rfl)
   obtain ⟨X,hX⟩ : ∃ X,X = fpl [eI tyValue b_.Long.Value g_b__0]:=⟨_,rfl⟩
   have hS : SH M X w [eI tyValue b_.Long.Value g_b__0] w:=by rw [hX]; exact hS0
   have hd:=hS.hand [0] [0] rfl rfl
   refine Stp.mono (o_callx H rfl rfl (sorter_rank_ok (g_d__0:=g_b__0) _ _ hy13.symm _ _ hd)) ?_
   rintro v w2 hq
   obtain ⟨g14,rfl,hq⟩:=hq
   replace hS : SH M X w [eO 3 (tI .i64) y13 g14,eI tyValue b_.Long.Value g_b__0] _:=hS.join [0] [0] rfl rfl hq
   rw [hX] at hS
   exact ⟨gL [g14],fun _ _ => rfl,hS.sel [0,1] rfl⟩
  ·intro o ho a w yg9 M Hb hv hO hS
   obtain rfl:=someE ho
   exact Stp.mono (o_evs [(vI y16)] (vI y16) (some (rB 62 [.slice (yg9 1 0).a y10.length (yg9 1 0).c,.slice (yg9 3 0).a y13.length (yg9 3 0).c] (vI y16))) [] (((Hb).add (hv 1 (by decide) (by decide) 6 rfl)).add (hv 3 (by decide) (by decide) 8 rfl)) rfl (by kernel_rfl) (fun q e => by cases e; exact (slices_Compare_int_int_ok (g_s1:=(yg9 1 0)) (g_s2:=(yg9 3 0)) 64 _ _ _ hy16 _ (s0im (s0im s0nil (hS.osl 1 rfl)) (hS.osl 0 rfl))))) fun _ _ hq => ⟨gL [],fun _ _ => hq.1,(hS.below hq.2.below).sel [0,1] rfl⟩
  ·intro o ho a w yg9 M Hb hv hO hS
   obtain rfl:=someE ho
   exact Stp.mono (o_evs [] (vI y16) none [] ((Hb).add (hv 4 (by decide) (by decide) 9 rfl)) rfl (by kernel_rfl) (fun q e => by cases e)) fun _ _ hq => ⟨gL [],fun _ _ => hq.1,(hS.below hq.2.below).sel [] rfl⟩
 have H19 : Fr 10 [(4,[],vI y16)] _:=(FrG.add (FrG.keep (ks:=[]) H18 (by kernel_rfl)) (hv 5 4 rfl))
 replace hS : SH M X w [eO 3 (tI .i64) y10 (yg9 1 0),eO 3 (tI .i64) y13 (yg9 3 0),eB b4 [vS b_.Long.Name,vL g_b__0 b_.Long.Value,vS b_.Long.Whole,vB b_.Important,vU b_.Origin,vB b_.Attached,vI b_.Layer,vI b_.Weight.e0,vI b_.Weight.e1,vI b_.Weight.e2,vI b_.Order],eB b1 [vS a_.Long.Name,vL g_a__0 a_.Long.Value,vS a_.Long.Whole,vB a_.Important,vU a_.Origin,vB a_.Attached,vI a_.Layer,vI a_.Weight.e0,vI a_.Weight.e1,vI a_.Weight.e2,vI a_.Order],eI tyValue a_.Long.Value g_a__0,eI tyValue b_.Long.Value g_b__0] _:=hS
 clear hv H18
 generalize yg9 1 0 = g20 at H19 hS
 generalize yg9 3 0 = g21 at H19 hS
 replace hS : SH M X w [] _:=hS.sel [] rfl
 apply w_ret
 obtain rfl:=someE hm
 exact retR1 H19 rfl rfl ⟨_,rfl,rfl,(hS.sel [] rfl)⟩
theorem sorter_compare_ok {g_a__0 : Gh} {g_b__0 : Gh} (m : Nat) (a_ : TDeclared) (b_ : TDeclared) (r : Int) (hm : sorter_compare m a_ b_ = some r) (w : World) (hL : S0 F0 [eI tyValue a_.Long.Value g_a__0,eI tyValue b_.Long.Value g_b__0] w ∧ fpl [eI tyValue a_.Long.Value g_a__0,eI tyValue b_.Long.Value g_b__0] = []) : RetB Tryz.prog 40 ⟨[vG [vS a_.Long.Name,vL g_a__0 a_.Long.Value,vS a_.Long.Whole,vB a_.Important,vU a_.Origin,vB a_.Attached,vI a_.Layer,vI a_.Weight.e0,vI a_.Weight.e1,vI a_.Weight.e2,vI a_.Order],vG [vS b_.Long.Name,vL g_b__0 b_.Long.Value,vS b_.Long.Whole,vB b_.Important,vU b_.Origin,vB b_.Attached,vI b_.Layer,vI b_.Weight.e0,vI b_.Weight.e1,vI b_.Weight.e2,vI b_.Order]]⟩ (vI r) w:=retB_of hL (Tryz.call40 _) (fun w' h => sorter_compare_w F0 m   a_ b_ r hm w' h)

theorem sorter_Before_w {g_a__0 : Gh} {g_b__0 : Gh} (M : Av) (m : Nat) (a_ : TDeclared) (b_ : TDeclared) (r : Bool × Int) (hm : sorter_Before m a_ b_ = some r) (w : World) (hS : S0 M [eI tyValue a_.Long.Value g_a__0,eI tyValue b_.Long.Value g_b__0,gE0] w) : Calls Tryz.prog 46 ⟨[vG [vS a_.Long.Name,vL g_a__0 a_.Long.Value,vS a_.Long.Whole,vB a_.Important,vU a_.Origin,vB a_.Attached,vI a_.Layer,vI a_.Weight.e0,vI a_.Weight.e1,vI a_.Weight.e2,vI a_.Order],vG [vS b_.Long.Name,vL g_b__0 b_.Long.Value,vS b_.Long.Whole,vB b_.Important,vU b_.Origin,vB b_.Attached,vI b_.Layer,vI b_.Weight.e0,vI b_.Weight.e1,vI b_.Weight.e2,vI b_.Order]]⟩ w (fun e w' => ∃ v,e = .returned v ∧ v = vW [vB r.1,vI r.2] ∧ SH M (fpl [eI tyValue a_.Long.Value g_a__0,eI tyValue b_.Long.Value g_b__0,gE0]) w [] w'):=by
 rw [sorter_Before] at hm
 have hS0 : SH M (fpl [eI tyValue a_.Long.Value g_a__0,eI tyValue b_.Long.Value g_b__0,gE0]) w [eI tyValue a_.Long.Value g_a__0,eI tyValue b_.Long.Value g_b__0,gE0] w:=hS
 generalize hX : fpl [eI tyValue a_.Long.Value g_a__0,eI tyValue b_.Long.Value g_b__0,gE0] = X at hS0 ⊢
 clear hS hX
 have hS:=hS0
 clear hS0
 refine calls_entryP Tryz.func46 rfl Tryz.ntmps46 rfl fun _ H => ?_
 apply w_seq
 apply wl_start
 have hd:=hS.hand [] [0,1,2] rfl rfl
 refine m_stp [2,1] [(1,[],vG [vS b_.Long.Name,vL g_b__0 b_.Long.Value,vS b_.Long.Whole,vB b_.Important,vU b_.Origin,vB b_.Attached,vI b_.Layer,vI b_.Weight.e0,vI b_.Weight.e1,vI b_.Weight.e2,vI b_.Order])] H rfl rfl rfl rfl (o_box [vS a_.Long.Name,vL g_a__0 a_.Long.Value,vS a_.Long.Whole,vB a_.Important,vU a_.Origin,vB a_.Attached,vI a_.Layer,vI a_.Weight.e0,vI a_.Weight.e1,vI a_.Weight.e2,vI a_.Order] H hd rfl rfl) (fun _ => rfl) fun _ _ v H3 hq => ?_
 obtain ⟨b1,rfl,hq⟩:=hq
 replace hS : SH M X w [eB b1 [vS a_.Long.Name,vL g_a__0 a_.Long.Value,vS a_.Long.Whole,vB a_.Important,vU a_.Origin,vB a_.Attached,vI a_.Layer,vI a_.Weight.e0,vI a_.Weight.e1,vI a_.Weight.e2,vI a_.Order],eI tyValue a_.Long.Value g_a__0,eI tyValue b_.Long.Value g_b__0,gE0] _:=hS.join [] [0,1,2] rfl rfl hq
 have hd:=hS.hand [] [0,1,2,3] rfl rfl
 refine m_stp [3,2] [(2,[],vP b1)] H3 rfl rfl rfl rfl (o_box [vS b_.Long.Name,vL g_b__0 b_.Long.Value,vS b_.Long.Whole,vB b_.Important,vU b_.Origin,vB b_.Attached,vI b_.Layer,vI b_.Weight.e0,vI b_.Weight.e1,vI b_.Weight.e2,vI b_.Order] H3 hd rfl rfl) (fun _ => rfl) fun _ _ v H6 hq => ?_
 obtain ⟨b4,rfl,hq⟩:=hq
 replace hS : SH M X w [eB b4 [vS b_.Long.Name,vL g_b__0 b_.Long.Value,vS b_.Long.Whole,vB b_.Important,vU b_.Origin,vB b_.Attached,vI b_.Layer,vI b_.Weight.e0,vI b_.Weight.e1,vI b_.Weight.e2,vI b_.Order],eB b1 [vS a_.Long.Name,vL g_a__0 a_.Long.Value,vS a_.Long.Whole,vB a_.Important,vU a_.Origin,vB a_.Attached,vI a_.Layer,vI a_.Weight.e0,vI a_.Weight.e1,vI a_.Weight.e2,vI a_.Order],eI tyValue a_.Long.Value g_a__0,eI tyValue b_.Long.Value g_b__0,gE0] _:=hS.join [] [0,1,2,3] rfl rfl hq
 refine wl_batch 2 4 [] [2,3] (fS [2,3] [vP b1,vP b4]) [] H6 (by decide) (by kernel_rfl) trivial fun _ _ H8 hb => ?_
 replace hS:=hS.below hb
 apply wl_end rfl
 apply w_seq
 apply w_seq
 apply wl_start
 refine wl_batch 0 2 [(vG [vS a_.Long.Name,vL g_a__0 a_.Long.Value,vS a_.Long.Whole,vB a_.Important,vU a_.Origin,vB a_.Attached,vI a_.Layer,vI a_.Weight.e0,vI a_.Weight.e1,vI a_.Weight.e2,vI a_.Order]),(vG [vS b_.Long.Name,vL g_b__0 b_.Long.Value,vS b_.Long.Whole,vB b_.Important,vU b_.Origin,vB b_.Attached,vI b_.Layer,vI b_.Weight.e0,vI b_.Weight.e1,vI b_.Weight.e2,vI b_.Order])] [2,3,7,8] (fS [2,3,7,8] [vP b1,vP b4,vG [vS a_.Long.Name,vL g_a__0 a_.Long.Value,vS a_.Long.Whole,vB a_.Important,vU a_.Origin,vB a_.Attached,vI a_.Layer,vI a_.Weight.e0,vI a_.Weight.e1,vI a_.Weight.e2,vI a_.Order],vG [vS b_.Long.Name,vL g_b__0 b_.Long.Value,vS b_.Long.Whole,vB b_.Important,vU b_.Origin,vB b_.Attached,vI b_.Layer,vI b_.Weight.e0,vI b_.Weight.e1,vI b_.Weight.e2,vI b_.Order]]) [rN b1 0 [vS a_.Long.Name,vL g_a__0 a_.Long.Value,vS a_.Long.Whole,vB a_.Important,vU a_.Origin,vB a_.Attached,vI a_.Layer,vI a_.Weight.e0,vI a_.Weight.e1,vI a_.Weight.e2,vI a_.Order],rN b4 0 [vS b_.Long.Name,vL g_b__0 b_.Long.Value,vS b_.Long.Whole,vB b_.Important,vU b_.Origin,vB b_.Attached,vI b_.Layer,vI b_.Weight.e0,vI b_.Weight.e1,vI b_.Weight.e2,vI b_.Order]] H8 (by decide) (by kernel_rfl) ⟨((hS.bk 1 rfl).atD rfl),((hS.bk 0 rfl).atD rfl),trivial⟩ fun _ _ H10 hb => ?_
 replace hS:=hS.below hb
 have hd:=hS.hand [2,3] [0,1,2,3,4] rfl rfl
 refine m_stp [9,2,3] (fS [2,3] [vP b1,vP b4]) H10 rfl rfl rfl rfl (o_lit (T:=tyDeclared) (E:=35) (zv:=vG [vN,vO,vN,vF,vU 0,vF,vI 0,vI 0,vI 0,vI 0,vI 0]) [vS a_.Long.Name,vL g_a__0 a_.Long.Value,vS a_.Long.Whole,vB a_.Important,vU a_.Origin,vB a_.Attached,vI a_.Layer,vI a_.Weight.e0,vI a_.Weight.e1,vI a_.Weight.e2,vI a_.Order,vS b_.Long.Name,vL g_b__0 b_.Long.Value,vS b_.Long.Whole,vB b_.Important,vU b_.Origin,vB b_.Attached,vI b_.Layer,vI b_.Weight.e0,vI b_.Weight.e1,vI b_.Weight.e2,vI b_.Order] ([a_,b_] : List TDeclared) [gL [g_a__0],gL [g_b__0]] _ H10 hd rfl (by kernel_rfl) (by kernel_rfl) (by kernel_rfl) (by kernel_rfl) (by kernel_rfl) (by kernel_rfl) (by kernel_rfl) rfl (InnL.cons (tyDeclared_mk (hd.im 0 rfl)) (InnL.cons (tyDeclared_mk (hd.im 1 rfl)) InnL.nil))) (fun _ => rfl) fun _ _ v H14 hq => ?_
 obtain ⟨g11,rfl,hq⟩:=hq
 replace hS : SH M X w [eO 35 tyDeclared ([a_,b_] : List TDeclared) g11,eB b4 [vS b_.Long.Name,vL g_b__0 b_.Long.Value,vS b_.Long.Whole,vB b_.Important,vU b_.Origin,vB b_.Attached,vI b_.Layer,vI b_.Weight.e0,vI b_.Weight.e1,vI b_.Weight.e2,vI b_.Order],eB b1 [vS a_.Long.Name,vL g_a__0 a_.Long.Value,vS a_.Long.Whole,vB a_.Important,vU a_.Origin,vB a_.Attached,vI a_.Layer,vI a_.Weight.e0,vI a_.Weight.e1,vI a_.Weight.e2,vI a_.Order],eI tyValue a_.Long.Value g_a__0,eI tyValue b_.Long.Value g_b__0,gE0] _:=hS.join [2,3] [0,1,2,3,4] rfl rfl hq
 obtain ⟨y15,hy15,hm⟩:=bindE hm
 refine wl_batch 3 5 [(vI y15)] [2,3,6] (fS [2,3,6] [vP b1,vP b4,vI y15]) [rB 36 [vK g11 2] (vI y15)] H14 (by decide) (by kernel_rfl) ⟨(sorter_check_ok (g_l_:=g11) m _ _ hy15 _ (s0im (s0im s0nil (hS.im 5 rfl)) (hS.osl 0 rfl))),trivial⟩ fun _ _ H17 hb => ?_
 replace hS:=hS.below hb
 apply wl_end rfl
 replace hS : SH M X w [eB b4 [vS b_.Long.Name,vL g_b__0 b_.Long.Value,vS b_.Long.Whole,vB b_.Important,vU b_.Origin,vB b_.Attached,vI b_.Layer,vI b_.Weight.e0,vI b_.Weight.e1,vI b_.Weight.e2,vI b_.Order],eB b1 [vS a_.Long.Name,vL g_a__0 a_.Long.Value,vS a_.Long.Whole,vB a_.Important,vU a_.Origin,vB a_.Attached,vI a_.Layer,vI a_.Weight.e0,vI a_.Weight.e1,vI a_.Weight.e2,vI a_.Order],eI tyValue a_.Long.Value g_a__0,eI tyValue b_.Long.Value g_b__0,gE0] _:=hS.sel [1,2,3,4,5] rfl
 refine s_reg [] [2,3,6,12] (fS [2,3,6,12] [vP b1,vP b4,vI y15,vB (y15 != 0)]) [] H17 (by kernel_rfl) trivial fun _ _ H19 hb => ?_
 replace hS:=hS.below hb
 refine w_if H19 rfl (fun hc => ?c25) (fun hc => ?_)
 case c25 =>
  replace hm:=bT hc hm
  refine s_reg [] [4,5] (fS [4,5] [vF,vI y15]) [] H19 (by kernel_rfl) trivial fun _ _ H21 hb => ?_
  replace hS:=hS.below hb
  replace hS : SH M X w [gE0] _:=hS.sel [4] rfl
  apply w_ret
  obtain rfl:=someE hm
  exact retR2 H21 rfl rfl rfl ⟨_,rfl,rfl,(hS.sel [] rfl)⟩
 replace hm:=bF hc hm
 apply w_skip
 obtain ⟨y22,hy22,hm⟩:=bindE hm
 refine s_reg [(vG [vS a_.Long.Name,vL g_a__0 a_.Long.Value,vS a_.Long.Whole,vB a_.Important,vU a_.Origin,vB a_.Attached,vI a_.Layer,vI a_.Weight.e0,vI a_.Weight.e1,vI a_.Weight.e2,vI a_.Order]),(vG [vS b_.Long.Name,vL g_b__0 b_.Long.Value,vS b_.Long.Whole,vB b_.Important,vU b_.Origin,vB b_.Attached,vI b_.Layer,vI b_.Weight.e0,vI b_.Weight.e1,vI b_.Weight.e2,vI b_.Order]),(vI y22)] [4,5] (fS [4,5] [vB (decide (y22 < 0)),vI 0]) [rN b1 0 [vS a_.Long.Name,vL g_a__0 a_.Long.Value,vS a_.Long.Whole,vB a_.Important,vU a_.Origin,vB a_.Attached,vI a_.Layer,vI a_.Weight.e0,vI a_.Weight.e1,vI a_.Weight.e2,vI a_.Order],rN b4 0 [vS b_.Long.Name,vL g_b__0 b_.Long.Value,vS b_.Long.Whole,vB b_.Important,vU b_.Origin,vB b_.Attached,vI b_.Layer,vI b_.Weight.e0,vI b_.Weight.e1,vI b_.Weight.e2,vI b_.Order],rB 40 [vG [vS a_.Long.Name,vL g_a__0 a_.Long.Value,vS a_.Long.Whole,vB a_.Important,vU a_.Origin,vB a_.Attached,vI a_.Layer,vI a_.Weight.e0,vI a_.Weight.e1,vI a_.Weight.e2,vI a_.Order],vG [vS b_.Long.Name,vL g_b__0 b_.Long.Value,vS b_.Long.Whole,vB b_.Important,vU b_.Origin,vB b_.Attached,vI b_.Layer,vI b_.Weight.e0,vI b_.Weight.e1,vI b_.Weight.e2,vI b_.Order]] (vI y22)] H19 (by kernel_rfl) ⟨((hS.bk 1 rfl).atD rfl),((hS.bk 0 rfl).atD rfl),(sorter_compare_ok (g_a__0:=g_a__0) (g_b__0:=g_b__0) m _ _ _ hy22 _ (s0im (s0im s0nil (hS.im 3 rfl)) (hS.im 2 rfl))),trivial⟩ fun _ _ H24 hb => ?_
 replace hS:=hS.below hb
 replace hS : SH M X w [gE0] _:=hS.sel [4] rfl
 apply w_ret
 obtain rfl:=someE hm
 exact retR2 H24 rfl rfl rfl ⟨_,rfl,rfl,(hS.sel [] rfl)⟩
theorem sorter_Before_ok {g_a__0 : Gh} {g_b__0 : Gh} (m : Nat) (a_ : TDeclared) (b_ : TDeclared) (r : Bool × Int) (hm : sorter_Before m a_ b_ = some r) (w : World) (hL : S0 F0 [eI tyValue a_.Long.Value g_a__0,eI tyValue b_.Long.Value g_b__0,gE0] w ∧ fpl [eI tyValue a_.Long.Value g_a__0,eI tyValue b_.Long.Value g_b__0,gE0] = []) : RetB Tryz.prog 46 ⟨[vG [vS a_.Long.Name,vL g_a__0 a_.Long.Value,vS a_.Long.Whole,vB a_.Important,vU a_.Origin,vB a_.Attached,vI a_.Layer,vI a_.Weight.e0,vI a_.Weight.e1,vI a_.Weight.e2,vI a_.Order],vG [vS b_.Long.Name,vL g_b__0 b_.Long.Value,vS b_.Long.Whole,vB b_.Important,vU b_.Origin,vB b_.Attached,vI b_.Layer,vI b_.Weight.e0,vI b_.Weight.e1,vI b_.Weight.e2,vI b_.Order]]⟩ (vW [vB r.1,vI r.2]) w:=retB_of hL (Tryz.call46 _) (fun w' h => sorter_Before_w F0 m   a_ b_ r hm w' h)

theorem wide_asked_w {g_l_ : Gh} (M : Av) (m : Nat) (l_ : List TDeclared) (r : Int) (hm : wide_asked m l_ = some r) (w : World) (hS : S0 M [eI tyDeclared l_ g_l_,gE0] w) : Calls Tryz.prog 25 ⟨[vL g_l_ l_]⟩ w (fun e w' => ∃ v,e = .returned v ∧ v = vI r ∧ SH M (fpl [eI tyDeclared l_ g_l_,gE0]) w [] w'):=by
 rw [wide_asked] at hm
 have hS0 : SH M (fpl [eI tyDeclared l_ g_l_,gE0]) w [eI tyDeclared l_ g_l_,gE0] w:=hS
 generalize hX : fpl [eI tyDeclared l_ g_l_,gE0] = X at hS0 ⊢
 clear hS hX
 have hS:=hS0
 clear hS0
 refine calls_entryP Tryz.func25 rfl Tryz.ntmps25 rfl fun _ H => ?_
 refine s_reg [] [0] [(0,[],vL g_l_ l_)] [] H (by kernel_rfl) trivial fun _ _ H2 hb => ?_
 replace hS:=hS.below hb
 obtain ⟨z3,hz,hm_z3⟩:=bindE hm
 refine w_cut (fun a' w' => ∃ s_z3 : Unit,z3 = Sum.inr s_z3 ∧ Fr 41 [(0,[],vL g_l_ l_)] a' ∧ SH M X w [eI tyDeclared l_ g_l_,gE0] w') ?_ ?_
 ·replace hm:=hz
  refine s_reg [] [0,9,10,11] (fS [0,9,10,11] [vL g_l_ l_,vL g_l_ l_,vI (ln l_),vI 0]) [] H2 (by kernel_rfl) trivial fun _ _ H5 hb => ?_
  replace hS:=hS.below hb
  apply w_block
  refine w_loop (fun kk a' w' => ∃ (v6 : Int),wide_asked_L1 m l_ kk v6 = some _ ∧ Fr 41 (fS [0,9,10,11] [vL g_l_ l_,vL g_l_ l_,vI (ln l_),vI v6]) a' ∧ SH M X w [eI tyDeclared l_ g_l_,gE0] w') ⟨_,0,hm,FrG.keep (ks:=[0,9,10,11]) H5 (by kernel_rfl),hS⟩ ?_
  clear hm H5 hS
  rintro kk _ _ ⟨v6,hm,H,hS⟩
  cases kk with
  | zero => exact noneE hm
  | succ kk =>
   rw [wide_asked_L1] at hm
   refine s_reg [] [0,9,10,11,12] (fS [0,9,10,11,12] [vL g_l_ l_,vL g_l_ l_,vI (ln l_),vI v6,vB (decide (v6 < (ln l_)))]) [] H (by kernel_rfl) trivial fun _ _ H8 hb => ?_
   replace hS:=hS.below hb
   apply w_seq
   refine w_if H8 rfl (fun hc => ?_) (fun hc => ?c27)
   case c27 =>
    replace hm:=bF hc hm
    apply w_exit rfl
    obtain rfl:=someE hm
    exact ⟨_,rfl,FrG.keep (ks:=[0]) H8 (by kernel_rfl),hS⟩
   replace hm:=bT hc hm
   apply w_skip
   apply w_seq
   apply w_block
   apply w_seq
   apply wl_start
   obtain ⟨ho9,hm⟩:=chkE hm
   refine wl_batch 0 2 [(vG [vS (gi l_ v6).Long.Name,.slice (g_l_.s (v6).toNat 0).a (((gi l_ v6).Long.Value).length) (g_l_.s (v6).toNat 0).c,vS (gi l_ v6).Long.Whole,vB ((gi l_ v6).Important),vU ((gi l_ v6).Origin),vB ((gi l_ v6).Attached),vI ((gi l_ v6).Layer),vI ((gi l_ v6).Weight.e0),vI ((gi l_ v6).Weight.e1),vI ((gi l_ v6).Weight.e2),vI ((gi l_ v6).Order)])] [0,9,10,11,14] (fS [0,9,10,11,14] [vL g_l_ l_,vL g_l_ l_,vI (ln l_),vI v6,vG [vS (gi l_ v6).Long.Name,.slice (g_l_.s (v6).toNat 0).a (((gi l_ v6).Long.Value).length) (g_l_.s (v6).toNat 0).c,vS (gi l_ v6).Long.Whole,vB ((gi l_ v6).Important),vU ((gi l_ v6).Origin),vB ((gi l_ v6).Attached),vI ((gi l_ v6).Layer),vI ((gi l_ v6).Weight.e0),vI ((gi l_ v6).Weight.e1),vI ((gi l_ v6).Weight.e2),vI ((gi l_ v6).Order)]]) [fun _ => oka g_l_.a ∧ 0 ≤ v6 ∧ v6 < ln l_,fun wz => V.atN (ab g_l_.a) (ao g_l_.a + (v6).toNat * 11) [vS (gi l_ v6).Long.Name,.slice (g_l_.s (v6).toNat 0).a (((gi l_ v6).Long.Value).length) (g_l_.s (v6).toNat 0).c,vS (gi l_ v6).Long.Whole,vB ((gi l_ v6).Important),vU ((gi l_ v6).Origin),vB ((gi l_ v6).Attached),vI ((gi l_ v6).Layer),vI ((gi l_ v6).Weight.e0),vI ((gi l_ v6).Weight.e1),vI ((gi l_ v6).Weight.e2),vI ((gi l_ v6).Order)] 0 wz] H8 (by decide) (by kernel_rfl) ⟨((hS.im 0 rfl).oki ho9),((hS.im 0 rfl).atA ho9 0 rfl),trivial⟩ fun _ _ H11 hb => ?_
   replace hS:=hS.below hb
   have hd:=hS.hand [] [0,1] rfl rfl
   refine m_stp [4,0,9,10,11,14] (fS [0,9,10,11,14] [vL g_l_ l_,vL g_l_ l_,vI (ln l_),vI v6,vG [vS (gi l_ v6).Long.Name,.slice (g_l_.s (v6).toNat 0).a (((gi l_ v6).Long.Value).length) (g_l_.s (v6).toNat 0).c,vS (gi l_ v6).Long.Whole,vB ((gi l_ v6).Important),vU ((gi l_ v6).Origin),vB ((gi l_ v6).Attached),vI ((gi l_ v6).Layer),vI ((gi l_ v6).Weight.e0),vI ((gi l_ v6).Weight.e1),vI ((gi l_ v6).Weight.e2),vI ((gi l_ v6).Order)]]) H11 rfl rfl rfl rfl (o_alloc [vN,vO,vN,vF,vU 0,vF,vI 0,vI 0,vI 0,vI 0,vI 0] (z:=vG [vN,vO,vN,vF,vU 0,vF,vI 0,vI 0,vI 0,vI 0,vI 0]) hd (by kernel_rfl) rfl) (fun _ => rfl) fun _ _ v H14 hq => ?_
   obtain ⟨b12,rfl,hq⟩:=hq
   replace hS : SH M X w [eB b12 [vN,vO,vN,vF,vU 0,vF,vI 0,vI 0,vI 0,vI 0,vI 0],eI tyDeclared l_ g_l_,gE0] _:=hS.join [] [0,1] rfl rfl hq
   have hd:=hS.hand [0] [1,2] rfl rfl
   refine m_stp0 [0,4,9,10,11] (fS [0,4,9,10,11] [vL g_l_ l_,vP b12,vL g_l_ l_,vI (ln l_),vI v6]) H14 rfl rfl rfl (o_store [vS (gi l_ v6).Long.Name,.slice (g_l_.s (v6).toNat 0).a (((gi l_ v6).Long.Value).length) (g_l_.s (v6).toNat 0).c,vS (gi l_ v6).Long.Whole,vB ((gi l_ v6).Important),vU ((gi l_ v6).Origin),vB ((gi l_ v6).Attached),vI ((gi l_ v6).Layer),vI ((gi l_ v6).Weight.e0),vI ((gi l_ v6).Weight.e1),vI ((gi l_ v6).Weight.e2),vI ((gi l_ v6).Order)] H14 hd rfl rfl (by kernel_rfl) rfl rfl rfl) rfl fun _ _ H16 hq => ?_
   obtain ⟨_,hq⟩:=hq
   replace hS : SH M X w [eB b12 [vS (gi l_ v6).Long.Name,.slice (g_l_.s (v6).toNat 0).a (((gi l_ v6).Long.Value).length) (g_l_.s (v6).toNat 0).c,vS (gi l_ v6).Long.Whole,vB ((gi l_ v6).Important),vU ((gi l_ v6).Origin),vB ((gi l_ v6).Attached),vI ((gi l_ v6).Layer),vI ((gi l_ v6).Weight.e0),vI ((gi l_ v6).Weight.e1),vI ((gi l_ v6).Weight.e2),vI ((gi l_ v6).Order)],eI tyDeclared l_ g_l_,gE0] _:=hS.join [0] [1,2] rfl rfl hq
   apply wl_end rfl
   obtain ⟨y17,hy17,hm⟩:=bindE hm
   refine s_reg [(vG [vS (gi l_ v6).Long.Name,.slice (g_l_.s (v6).toNat 0).a (((gi l_ v6).Long.Value).length) (g_l_.s (v6).toNat 0).c,vS (gi l_ v6).Long.Whole,vB ((gi l_ v6).Important),vU ((gi l_ v6).Origin),vB ((gi l_ v6).Attached),vI ((gi l_ v6).Layer),vI ((gi l_ v6).Weight.e0),vI ((gi l_ v6).Weight.e1),vI ((gi l_ v6).Weight.e2),vI ((gi l_ v6).Order)]),(vI y17)] [0,5,9,10,11] (fS [0,5,9,10,11] [vL g_l_ l_,vI y17,vL g_l_ l_,vI (ln l_),vI v6]) [rN b12 0 [vS (gi l_ v6).Long.Name,.slice (g_l_.s (v6).toNat 0).a (((gi l_ v6).Long.Value).length) (g_l_.s (v6).toNat 0).c,vS (gi l_ v6).Long.Whole,vB ((gi l_ v6).Important),vU ((gi l_ v6).Origin),vB ((gi l_ v6).Attached),vI ((gi l_ v6).Layer),vI ((gi l_ v6).Weight.e0),vI ((gi l_ v6).Weight.e1),vI ((gi l_ v6).Weight.e2),vI ((gi l_ v6).Order)],rB 45 [vG [vS (gi l_ v6).Long.Name,.slice (g_l_.s (v6).toNat 0).a (((gi l_ v6).Long.Value).length) (g_l_.s (v6).toNat 0).c,vS (gi l_ v6).Long.Whole,vB ((gi l_ v6).Important),vU ((gi l_ v6).Origin),vB ((gi l_ v6).Attached),vI ((gi l_ v6).Layer),vI ((gi l_ v6).Weight.e0),vI ((gi l_ v6).Weight.e1),vI ((gi l_ v6).Weight.e2),vI ((gi l_ v6).Order)]] (vI y17)] H16 (by kernel_rfl) ⟨((hS.bk 0 rfl).atD rfl),(sorter_Check_ok (g_d__0:=(g_l_.s (v6).toNat 0)) m _ _ hy17 _ (s0im (s0im s0nil (hS.im 2 rfl)) (tyDeclared_i0 ((hS.im 1 rfl).el ho9)))),trivial⟩ fun _ _ H19 hb => ?_
   replace hS:=hS.below hb
   replace hS : SH M X w [eI tyDeclared l_ g_l_,gE0] _:=hS.sel [1,2] rfl
   refine s_reg [] [0,5,9,10,11,18] (fS [0,5,9,10,11,18] [vL g_l_ l_,vI y17,vL g_l_ l_,vI (ln l_),vI v6,vB (y17 != 0)]) [] H19 (by kernel_rfl) trivial fun _ _ H21 hb => ?_
   replace hS:=hS.below hb
   refine w_if H21 rfl (fun hc => ?_) (fun hc => ?c26)
   case c26 =>
    replace hm:=bF hc hm
    apply w_skip
    refine w_reg [] [0,9,10,11] (fS [0,9,10,11] [vL g_l_ l_,vL g_l_ l_,vI (ln l_),vI (w64 (v6 + 1))]) [] H21 (by kernel_rfl) trivial fun _ _ H25 hb => ?_
    replace hS:=hS.below hb
    exact ⟨_,Nat.lt_succ_self _,w64 (v6 + 1),hm,FrG.keep (ks:=[0,9,10,11]) H25 (by kernel_rfl),hS⟩
   replace hm:=bT hc hm
   refine s_reg [] [2] [(2,[],vI y17)] [] H21 (by kernel_rfl) trivial fun _ _ H23 hb => ?_
   replace hS:=hS.below hb
   apply w_ret
   obtain rfl:=someE hm
   have hm:=hm_z3
   obtain rfl:=someE hm
   exact retR1 H23 rfl rfl ⟨_,rfl,rfl,(hS.sel [] rfl)⟩
 ·rintro _ _ ⟨s_z3,hz,H,hS⟩
  subst hz
  replace hm:=sumR hm_z3
  obtain ⟨z29,hz,hm_z29⟩:=bindE hm
  refine w_cut (fun a' w' => ∃ s_z29 : Unit,z29 = Sum.inr s_z29 ∧ Fr 41 [] a' ∧ SH M X w [eI tyDeclared l_ g_l_,gE0] w') ?_ ?_
  ·replace hm:=hz
   refine s_reg [] [0,6] (fS [0,6] [vL g_l_ l_,vI 1]) [] H (by kernel_rfl) trivial fun _ _ H31 hb => ?_
   replace hS:=hS.below hb
   apply w_block
   refine w_loop (fun kk a' w' => ∃ (v32 : Int),wide_asked_L2 m l_ kk v32 = some _ ∧ Fr 41 (fS [0,6] [vL g_l_ l_,vI v32]) a' ∧ SH M X w [eI tyDeclared l_ g_l_,gE0] w') ⟨_,1,hm,FrG.keep (ks:=[0,6]) H31 (by kernel_rfl),hS⟩ ?_
   clear hm H31 hS
   rintro kk _ _ ⟨v32,hm,H,hS⟩
   cases kk with
   | zero => exact noneE hm
   | succ kk =>
    rw [wide_asked_L2] at hm
    apply w_seq
    refine s_reg [] [0,6,24] (fS [0,6,24] [vL g_l_ l_,vI v32,vB (decide (v32 < (ln l_)))]) [] H (by kernel_rfl) trivial fun _ _ H34 hb => ?_
    replace hS:=hS.below hb
    refine w_if H34 rfl (fun hc => ?_) (fun hc => ?c47)
    case c47 =>
     replace hm:=bF hc hm
     apply w_exit rfl
     obtain rfl:=someE hm
     exact ⟨_,rfl,FrG.keep (ks:=[]) H34 (by kernel_rfl),hS⟩
    replace hm:=bT hc hm
    apply w_skip
    apply w_seq
    apply w_block
    obtain ⟨ho35,hm⟩:=chkE hm
    obtain ⟨ho36,hm⟩:=chkE hm
    obtain ⟨y37,hy37,hm⟩:=bindE hm
    refine s_draw [(vG [vS (gi l_ v32).Long.Name,.slice (g_l_.s (v32).toNat 0).a (((gi l_ v32).Long.Value).length) (g_l_.s (v32).toNat 0).c,vS (gi l_ v32).Long.Whole,vB ((gi l_ v32).Important),vU ((gi l_ v32).Origin),vB ((gi l_ v32).Attached),vI ((gi l_ v32).Layer),vI ((gi l_ v32).Weight.e0),vI ((gi l_ v32).Weight.e1),vI ((gi l_ v32).Weight.e2),vI ((gi l_ v32).Order)]),(vG [vS (gi l_ (w64 (v32 - 1))).Long.Name,.slice (g_l_.s ((w64 (v32 - 1))).toNat 0).a (((gi l_ (w64 (v32 - 1))).Long.Value).length) (g_l_.s ((w64 (v32 - 1))).toNat 0).c,vS (gi l_ (w64 (v32 - 1))).Long.Whole,vB ((gi l_ (w64 (v32 - 1))).Important),vU ((gi l_ (w64 (v32 - 1))).Origin),vB ((gi l_ (w64 (v32 - 1))).Attached),vI ((gi l_ (w64 (v32 - 1))).Layer),vI ((gi l_ (w64 (v32 - 1))).Weight.e0),vI ((gi l_ (w64 (v32 - 1))).Weight.e1),vI ((gi l_ (w64 (v32 - 1))).Weight.e2),vI ((gi l_ (w64 (v32 - 1))).Order)]),(vW [vB y37.1,vI y37.2])] [0,6,7] (fS [0,6,7] [vL g_l_ l_,vI v32,vB y37.1]) [fun _ => oka g_l_.a ∧ 0 ≤ v32 ∧ v32 < ln l_,fun wz => V.atN (ab g_l_.a) (ao g_l_.a + (v32).toNat * 11) [vS (gi l_ v32).Long.Name,.slice (g_l_.s (v32).toNat 0).a (((gi l_ v32).Long.Value).length) (g_l_.s (v32).toNat 0).c,vS (gi l_ v32).Long.Whole,vB ((gi l_ v32).Important),vU ((gi l_ v32).Origin),vB ((gi l_ v32).Attached),vI ((gi l_ v32).Layer),vI ((gi l_ v32).Weight.e0),vI ((gi l_ v32).Weight.e1),vI ((gi l_ v32).Weight.e2),vI ((gi l_ v32).Order)] 0 wz,fun _ => oka g_l_.a ∧ 0 ≤ (w64 (v32 - 1)) ∧ (w64 (v32 - 1)) < ln l_,fun wz => V.atN (ab g_l_.a) (ao g_l_.a + ((w64 (v32 - 1))).toNat * 11) [vS (gi l_ (w64 (v32 - 1))).Long.Name,.slice (g_l_.s ((w64 (v32 - 1))).toNat 0).a (((gi l_ (w64 (v32 - 1))).Long.Value).length) (g_l_.s ((w64 (v32 - 1))).toNat 0).c,vS (gi l_ (w64 (v32 - 1))).Long.Whole,vB ((gi l_ (w64 (v32 - 1))).Important),vU ((gi l_ (w64 (v32 - 1))).Origin),vB ((gi l_ (w64 (v32 - 1))).Attached),vI ((gi l_ (w64 (v32 - 1))).Layer),vI ((gi l_ (w64 (v32 - 1))).Weight.e0),vI ((gi l_ (w64 (v32 - 1))).Weight.e1),vI ((gi l_ (w64 (v32 - 1))).Weight.e2),vI ((gi l_ (w64 (v32 - 1))).Order)] 0 wz,rB 46 [vG [vS (gi l_ v32).Long.Name,.slice (g_l_.s (v32).toNat 0).a (((gi l_ v32).Long.Value).length) (g_l_.s (v32).toNat 0).c,vS (gi l_ v32).Long.Whole,vB ((gi l_ v32).Important),vU ((gi l_ v32).Origin),vB ((gi l_ v32).Attached),vI ((gi l_ v32).Layer),vI ((gi l_ v32).Weight.e0),vI ((gi l_ v32).Weight.e1),vI ((gi l_ v32).Weight.e2),vI ((gi l_ v32).Order)],vG [vS (gi l_ (w64 (v32 - 1))).Long.Name,.slice (g_l_.s ((w64 (v32 - 1))).toNat 0).a (((gi l_ (w64 (v32 - 1))).Long.Value).length) (g_l_.s ((w64 (v32 - 1))).toNat 0).c,vS (gi l_ (w64 (v32 - 1))).Long.Whole,vB ((gi l_ (w64 (v32 - 1))).Important),vU ((gi l_ (w64 (v32 - 1))).Origin),vB ((gi l_ (w64 (v32 - 1))).Attached),vI ((gi l_ (w64 (v32 - 1))).Layer),vI ((gi l_ (w64 (v32 - 1))).Weight.e0),vI ((gi l_ (w64 (v32 - 1))).Weight.e1),vI ((gi l_ (w64 (v32 - 1))).Weight.e2),vI ((gi l_ (w64 (v32 - 1))).Order)]] (vW [vB y37.1,vI y37.2])] H34 (by kernel_rfl) (by kernel_rfl) (by kernel_rfl) ⟨((hS.im 0 rfl).oki ho35),((hS.im 0 rfl).atA ho35 0 rfl),((hS.im 0 rfl).oki ho36),((hS.im 0 rfl).atA ho36 0 rfl),(sorter_Before_ok (g_a__0:=(g_l_.s (v32).toNat 0)) (g_b__0:=(g_l_.s ((w64 (v32 - 1))).toNat 0)) m _ _ _ hy37 _ (s0im (s0im (s0im s0nil (hS.im 1 rfl)) (tyDeclared_i0 ((hS.im 0 rfl).el ho36))) (tyDeclared_i0 ((hS.im 0 rfl).el ho35)))),trivial⟩ fun _ _ H39 hb => ?_
    replace hS:=hS.below hb
    refine s_reg [] [0,6,40] (fS [0,6,40] [vL g_l_ l_,vI v32,vB y37.1]) [] H39 (by kernel_rfl) trivial fun _ _ H41 hb => ?_
    replace hS:=hS.below hb
    refine w_if H41 rfl (fun hc => ?_) (fun hc => ?c46)
    case c46 =>
     replace hm:=bF hc hm
     apply w_skip
     refine w_reg [] [0,6] (fS [0,6] [vL g_l_ l_,vI (w64 (v32 + 1))]) [] H41 (by kernel_rfl) trivial fun _ _ H45 hb => ?_
     replace hS:=hS.below hb
     exact ⟨_,Nat.lt_succ_self _,w64 (v32 + 1),hm,FrG.keep (ks:=[0,6]) H45 (by kernel_rfl),hS⟩
    replace hm:=bT hc hm
    refine s_reg [] [2] [(2,[],vI 2)] [] H41 (by kernel_rfl) trivial fun _ _ H43 hb => ?_
    replace hS:=hS.below hb
    apply w_ret
    obtain rfl:=someE hm
    have hm:=hm_z29
    obtain rfl:=someE hm
    exact retR1 H43 rfl rfl ⟨_,rfl,rfl,(hS.sel [] rfl)⟩
  ·rintro _ _ ⟨s_z29,hz,H,hS⟩
   subst hz
   replace hm:=sumR hm_z29
   replace hS : SH M X w [gE0] _:=hS.sel [1] rfl
   refine s_reg [] [2] [(2,[],vI 0)] [] H (by kernel_rfl) trivial fun _ _ H50 hb => ?_
   replace hS:=hS.below hb
   apply w_ret
   obtain rfl:=someE hm
   exact retR1 H50 rfl rfl ⟨_,rfl,rfl,(hS.sel [] rfl)⟩
theorem wide_asked_ok {g_l_ : Gh} (m : Nat) (l_ : List TDeclared) (r : Int) (hm : wide_asked m l_ = some r) (w : World) (hL : S0 F0 [eI tyDeclared l_ g_l_,gE0] w ∧ fpl [eI tyDeclared l_ g_l_,gE0] = []) : RetB Tryz.prog 25 ⟨[vL g_l_ l_]⟩ (vI r) w:=retB_of hL (Tryz.call25 _) (fun w' h => wide_asked_w F0 m   l_ r hm w' h)

theorem slices_Backward_api_Declared_api_Declared_w {g_s : Gh} (M : Av) (s : List TDeclared) (r : List TDeclared) (hm : slices_Backward_api_Declared_api_Declared s = r) (w : World) (hS : S0 M [eI tyDeclared s g_s] w) : Calls Tryz.prog 47 ⟨[vL g_s s]⟩ w (fun e w' => ∃ v,e = .returned v ∧ ∃ (b901 : Nat) (g902 : Gh),v = .func (.func 73) ⟨[]⟩ ⟨[vP b901]⟩ ∧ SH M (fpl [eI tyDeclared s g_s]) w [eB b901 [vL g902 r],eI tyDeclared r g902] w'):=by
 rw [slices_Backward_api_Declared_api_Declared] at hm
 have hS0 : SH M (fpl [eI tyDeclared s g_s]) w [eI tyDeclared s g_s] w:=hS
 generalize hX : fpl [eI tyDeclared s g_s] = X at hS0 ⊢
 clear hS hX
 have hS:=hS0
 clear hS0
 refine calls_entryP Tryz.func47 rfl Tryz.ntmps47 rfl fun _ H => ?_
 apply w_seq
 apply wl_start
 have hd:=hS.hand [] [0] rfl rfl
 refine m_stp [1] [] H rfl rfl rfl rfl (o_box [vL g_s s] H hd rfl rfl) (fun _ => rfl) fun _ _ v H3 hq => ?_
 obtain ⟨b1,rfl,hq⟩:=hq
 replace hS : SH M X w [eB b1 [vL g_s s],eI tyDeclared s g_s] _:=hS.join [] [0] rfl rfl hq
 refine wl_batch 1 2 [] [1] [(1,[],vP b1)] [] H3 (by decide) (by kernel_rfl) trivial fun _ _ H5 hb => ?_
 replace hS:=hS.below hb
 apply wl_end rfl
 refine s_reg [] [2] [(2,[],.func (.func 73) ⟨[]⟩ ⟨[vP b1]⟩)] [] H5 (by kernel_rfl) trivial fun _ _ H7 hb => ?_
 replace hS:=hS.below hb
 apply w_ret
 subst hm
 exact retR1 H7 rfl rfl ⟨_,rfl,b1,g_s,rfl,(hS.sel [0,1] rfl)⟩
theorem slices_Backward_api_Declared_api_Declared_ok {g_s : Gh} (s : List TDeclared) (r : List TDeclared) (hm : slices_Backward_api_Declared_api_Declared s = r) (M : Av) (w : World) (hS : S0 M [eI tyDeclared s g_s] w) : DoesX Tryz.prog 47 ⟨[vL g_s s]⟩ w (fun v w' => ∃ (b901 : Nat) (g902 : Gh),v = .func (.func 73) ⟨[]⟩ ⟨[vP b901]⟩ ∧ SH M (fpl [eI tyDeclared s g_s]) w [eB b901 [vL g902 r],eI tyDeclared r g902] w'):=⟨Tryz.call47 _,slices_Backward_api_Declared_api_Declared_w M   s r hm w hS⟩

theorem seq73 (l : List TDeclared) (g : Gh) (bs : Nat) (w : World) (hlen : ln l ≤ 1099511627776) : SeqI Tryz.prog 73 [vP bs] (fun kR => [vI ((l.length : Int) - 1 - (kR : Int)),vG [vS (gi l ((l.length : Int) - 1 - (kR : Int))).Long.Name,.slice (g.s (((l.length : Int) - 1 - (kR : Int))).toNat 0).a (gi l ((l.length : Int) - 1 - (kR : Int))).Long.Value.length (g.s (((l.length : Int) - 1 - (kR : Int))).toNat 0).c,vS (gi l ((l.length : Int) - 1 - (kR : Int))).Long.Whole,vB (gi l ((l.length : Int) - 1 - (kR : Int))).Important,vU (gi l ((l.length : Int) - 1 - (kR : Int))).Origin,vB (gi l ((l.length : Int) - 1 - (kR : Int))).Attached,vI (gi l ((l.length : Int) - 1 - (kR : Int))).Layer,vI (gi l ((l.length : Int) - 1 - (kR : Int))).Weight.e0,vI (gi l ((l.length : Int) - 1 - (kR : Int))).Weight.e1,vI (gi l ((l.length : Int) - 1 - (kR : Int))).Weight.e2,vI (gi l ((l.length : Int) - 1 - (kR : Int))).Order]]) l.length (fun W => Blk W bs [vL g l] ∧ SlG tyDeclared F0 W l g) w:=by
 unfold ln at hlen
 intro lr J Jx W hRD hJb hJx hY h0
 refine calls_entryW Tryz.func73 rfl Tryz.ntmps73 rfl fun _ H => ?_
 have hr:=hRD 0 W h0
 refine sr_reg [vL g l] [0,1,3] (fS [0,1,3] [.func (.yield lr) ⟨[]⟩ ⟨[]⟩,vP bs,vI (w64 ((l.length : Int) - 1))]) [rA bs 0 (vL g l)] H (by kernel_rfl) (by kernel_rfl) ⟨hr.1.at1 rfl,trivial⟩ fun _ W1 H hb => ?_
 replace h0:=hJb 0 _ _ h0 hb
 clear hb hr
 have hw : w64 ((l.length : Int) - 1) = (l.length : Int) - 1 - ((0 : Nat) : Int):=by rw [w64_r (by omega) (by omega)]; omega
 rw [hw] at H
 refine r_block ?_
 refine r_loop (fun q a W => ∃ k : Nat,k + q = l.length ∧ J k W ∧ Fr 19 (fS [0,1,3] [.func (.yield lr) ⟨[]⟩ ⟨[]⟩,vP bs,vI ((l.length : Int) - 1 - (k : Int))]) a) ⟨l.length,0,Nat.zero_add _,h0,H⟩ ?_
 clear H h0 hw
 rintro q _ W2 ⟨kR,hq,hJ,H⟩
 obtain ⟨v,hv⟩ : ∃ v,v = (l.length : Int) - 1 - (kR : Int):=⟨_,rfl⟩
 rw [← hv] at H
 refine r_seq ?_
 refine sr_reg [] [0,1,3,8] (fS [0,1,3,8] [.func (.yield lr) ⟨[]⟩ ⟨[]⟩,vP bs,vI v,vB (decide ((0 : Int) ≤ v))]) [] H (by kernel_rfl) (by kernel_rfl) trivial fun _ W3 H hb => ?_
 replace hJ:=hJb kR _ _ hJ hb
 refine r_if H rfl (fun hc => ?_) (fun hc => ?_)
 · have hc:=of_decide_eq_true hc
   refine r_skip ?_
   refine r_seq ?_
   refine r_block ?_
   have hr:=hRD kR W3 hJ
   have hix : 0 ≤ v ∧ v < ln l:=by unfold ln; omega
   refine r_seq ?_
   refine rl_reg ?_
   refine rl_batch 0 6 [vL g l,vG [vS (gi l v).Long.Name,.slice (g.s (v).toNat 0).a (gi l v).Long.Value.length (g.s (v).toNat 0).c,vS (gi l v).Long.Whole,vB (gi l v).Important,vU (gi l v).Origin,vB (gi l v).Attached,vI (gi l v).Layer,vI (gi l v).Weight.e0,vI (gi l v).Weight.e1,vI (gi l v).Weight.e2,vI (gi l v).Order]] [0,1,3,11,12,16] (fS [0,1,3,11,12,16] [.func (.yield lr) ⟨[]⟩ ⟨[]⟩,vP bs,vI v,.func (.yield lr) ⟨[]⟩ ⟨[]⟩,vI v,vG [vS (gi l v).Long.Name,.slice (g.s (v).toNat 0).a (gi l v).Long.Value.length (g.s (v).toNat 0).c,vS (gi l v).Long.Whole,vB (gi l v).Important,vU (gi l v).Origin,vB (gi l v).Attached,vI (gi l v).Layer,vI (gi l v).Weight.e0,vI (gi l v).Weight.e1,vI (gi l v).Weight.e2,vI (gi l v).Order]]) [rA bs 0 (vL g l),fun _ => oka g.a ∧ 0 ≤ v ∧ v < ln l,fun wz => V.atN (ab g.a) (ao g.a + (v).toNat * 11) [vS (gi l v).Long.Name,.slice (g.s (v).toNat 0).a (gi l v).Long.Value.length (g.s (v).toNat 0).c,vS (gi l v).Long.Whole,vB (gi l v).Important,vU (gi l v).Origin,vB (gi l v).Attached,vI (gi l v).Layer,vI (gi l v).Weight.e0,vI (gi l v).Weight.e1,vI (gi l v).Weight.e2,vI (gi l v).Order] 0 wz] H (by kernel_rfl) (by decide) (by kernel_rfl) ⟨hr.1.at1 rfl,hr.2.oki hix,hr.2.atA hix 0 rfl,trivial⟩ fun _ W4 H hb => ?_
   replace hJ:=hJb kR _ _ hJ hb
   clear hb hr
   have hy : YieldAt (FW none) 0 Tryz.prog lr ⟨[vI v,vG [vS (gi l v).Long.Name,.slice (g.s (v).toNat 0).a (gi l v).Long.Value.length (g.s (v).toNat 0).c,vS (gi l v).Long.Whole,vB (gi l v).Important,vU (gi l v).Origin,vB (gi l v).Attached,vI (gi l v).Layer,vI (gi l v).Weight.e0,vI (gi l v).Weight.e1,vI (gi l v).Weight.e2,vI (gi l v).Order]]⟩ W4 (fun e B => (e = .returned (vT) ∧ J (kR + 1) B) ∨ (e = .returned (vF) ∧ Jx B)):=by subst hv; exact hY kR W4 (by omega) hJ
   refine y_call [17,0,1,3] (fS [0,1,3] [.func (.yield lr) ⟨[]⟩ ⟨[]⟩,vP bs,vI v]) _ H rfl rfl rfl rfl (fun _ => rfl) hy ?_
   rintro e W5 (⟨rfl,hJ5⟩ | ⟨rfl,hJ5⟩)
   · refine ⟨_,rfl,fun _ H => ?_⟩
     refine rl_batch 7 8 [] [0,1,3,18] (fS [0,1,3,18] [.func (.yield lr) ⟨[]⟩ ⟨[]⟩,vP bs,vI v,vF]) [] H (by kernel_rfl) (by decide) (by kernel_rfl) trivial fun _ W6 H hb => ?_
     replace hJ5:=hJb _ _ _ hJ5 hb
     refine rl_end rfl ?_
     refine r_if H rfl (fun hc => by cases hc) (fun _ => ?_)
     refine r_skip ?_
     refine r_reg [] [0,1,3] (fS [0,1,3] [.func (.yield lr) ⟨[]⟩ ⟨[]⟩,vP bs,vI (w64 (v - 1))]) [] H (by kernel_rfl) (by kernel_rfl) trivial fun _ W7 H hb => ?_
     have hw : w64 (v - 1) = (l.length : Int) - 1 - ((kR + 1 : Nat) : Int):=by rw [w64_r (by omega) (by omega)]; omega
     rw [hw] at H
     exact ⟨q - 1,by omega,kR + 1,by omega,hJb _ _ _ hJ5 hb,H⟩
   · refine ⟨_,rfl,fun _ H => ?_⟩
     refine rl_batch 7 8 [] [0,1,3,18] (fS [0,1,3,18] [.func (.yield lr) ⟨[]⟩ ⟨[]⟩,vP bs,vI v,vT]) [] H (by kernel_rfl) (by decide) (by kernel_rfl) trivial fun _ W6 H hb => ?_
     replace hJ5:=hJx _ _ hJ5 hb
     refine rl_end rfl ?_
     refine r_if H rfl (fun _ => ?_) (fun hc => by cases hc)
     refine r_ret ?_
     exact retR0 H rfl ⟨⟨_,rfl⟩,.inr hJ5⟩
 · have hc:=of_decide_eq_false hc
   have hk : kR = l.length:=by omega
   subst hk
   refine r_exit rfl ?_
   dsimp only
   exact retR0 H rfl ⟨⟨_,rfl⟩,.inl hJ⟩
theorem short_small_w  (M : Av) (m : Nat) (s : Str) (r : Str) (hm : short_small m s = some r) (w : World) (hS : S0 M [] w) : Calls Tryz.prog 29 ⟨[vS s]⟩ w (fun e w' => ∃ v,e = .returned v ∧ v = vS r ∧ SH M (fpl []) w [] w'):=by
 rw [short_small] at hm
 have hS0 : SH M (fpl []) w [] w:=hS
 generalize hX : fpl [] = X at hS0 ⊢
 clear hS hX
 have hS:=hS0
 clear hS0
 refine calls_entryP Tryz.func29 rfl Tryz.ntmps29 rfl fun _ H => ?_
 refine s_reg [] [0] [(0,[],vS s)] [] H (by kernel_rfl) trivial fun _ _ H2 hb => ?_
 replace hS:=hS.below hb
 apply w_seq
 apply wl_start
 refine wl_batch 0 1 [] [6] [(6,[],vS s)] [] H2 (by decide) (by kernel_rfl) trivial fun _ _ H4 hb => ?_
 replace hS:=hS.below hb
 have hd:=hS.hand [] [] rfl rfl
 refine m_stp [7] [] H4 rfl rfl rfl rfl (o_bytes (E:=5) H4 hd rfl (by kernel_rfl) (by kernel_rfl) (by kernel_rfl)) (fun _ => rfl) fun _ _ v H8 hq => ?_
 obtain ⟨b5,c6,rfl,hc_b5,hq⟩:=hq
 replace hS : SH M X w [Ent.row .u8 b5 (ofB s) (ln (ofB s))] _:=hS.join [] [] rfl rfl hq
 refine wl_batch 2 3 [] [3] [(3,[],.slice (some ⟨b5,0,none⟩) ((ofB s).length) c6)] [] H8 (by decide) (by kernel_rfl) trivial fun _ _ H10 hb => ?_
 replace hS:=hS.below hb
 apply wl_end rfl
 obtain ⟨z11,hz,hm⟩:=bindE hm
 refine w_cut (fun a' w' => Fr 30 [(3,[],.slice (some ⟨b5,0,none⟩) ((ofB s).length) c6)] a' ∧ SH M X w [Ent.row .u8 b5 z11 (ln (ofB s))] w') ?_ ?_
 ·replace hm:=hz
  refine s_reg [] [3,8,9,10] (fS [3,8,9,10] [.slice (some ⟨b5,0,none⟩) ((ofB s).length) c6,.slice (some ⟨b5,0,none⟩) ((ofB s).length) c6,vI (ln (ofB s)),vI 0]) [] H10 (by kernel_rfl) trivial fun _ _ H13 hb => ?_
  replace hS:=hS.below hb
  apply w_block
  refine w_loop (fun kk a' w' => ∃ (v14 : Int) (v15 : List Int),short_small_L1 m s kk v14 v15 = some _ ∧ Fr 30 (fS [3,8,9,10] [.slice (some ⟨b5,0,none⟩) ((ofB s).length) c6,.slice (some ⟨b5,0,none⟩) ((ofB s).length) c6,vI (ln (ofB s)),vI v14]) a' ∧ SH M X w [Ent.row .u8 b5 v15 (ln (ofB s))] w') ⟨_,0,ofB s,hm,FrG.keep (ks:=[3,8,9,10]) H13 (by kernel_rfl),hS⟩ ?_
  clear hm H13 hS
  rintro kk _ _ ⟨v14,v15,hm,H,hS⟩
  cases kk with
  | zero => exact noneE hm
  | succ kk =>
   rw [short_small_L1] at hm
   refine s_reg [] [3,8,9,10,11] (fS [3,8,9,10,11] [.slice (some ⟨b5,0,none⟩) ((ofB s).length) c6,.slice (some ⟨b5,0,none⟩) ((ofB s).length) c6,vI (ln (ofB s)),vI v14,vB (decide (v14 < (ln (ofB s))))]) [] H (by kernel_rfl) trivial fun _ _ H17 hb => ?_
   replace hS:=hS.below hb
   apply w_seq
   refine w_if H17 rfl (fun hc => ?_) (fun hc => ?c34)
   case c34 =>
    replace hm:=bF hc hm
    apply w_exit rfl
    obtain rfl:=someE hm
    exact ⟨FrG.keep (ks:=[3]) H17 (by kernel_rfl),hS⟩
   replace hm:=bT hc hm
   apply w_skip
   obtain ⟨z18,hz,hm⟩:=bindE hm
   refine w_cut (fun a' w' => Fr 30 (fS [3,8,9,10] [.slice (some ⟨b5,0,none⟩) ((ofB s).length) c6,.slice (some ⟨b5,0,none⟩) ((ofB s).length) c6,vI (ln (ofB s)),vI v14]) a' ∧ SH M X w [Ent.row .u8 b5 z18 (ln (ofB s))] w') ?_ ?_
   ·replace hm:=hz
    apply w_block
    obtain ⟨ho19,hm⟩:=chkE hm
    refine s_reg [(vU (gi v15 v14))] [3,4,5,8,9,10] (fS [3,4,5,8,9,10] [.slice (some ⟨b5,0,none⟩) ((ofB s).length) c6,vI v14,vU (gi v15 v14),.slice (some ⟨b5,0,none⟩) ((ofB s).length) c6,vI (ln (ofB s)),vI v14]) [fun _ => oka (some ⟨b5,0,none⟩) ∧ 0 ≤ v14 ∧ v14 < ln (ofB s),fun wz => V.at1 ⟨b5,0 + (v14).toNat * 1,none⟩ (vU (gi v15 v14)) wz] H17 (by kernel_rfl) ⟨(⟨rfl,ho19⟩),(Rw.ixn (hS.rw 0 rfl) ho19),trivial⟩ fun _ _ H21 hb => ?_
    replace hS:=hS.below hb
    obtain ⟨x22,hx22,hm⟩:=letE hm
    refine s_reg [] [3,4,5,8,9,10,20] (fS [3,4,5,8,9,10,20] [.slice (some ⟨b5,0,none⟩) ((ofB s).length) c6,vI v14,vU (gi v15 v14),.slice (some ⟨b5,0,none⟩) ((ofB s).length) c6,vI (ln (ofB s)),vI v14,vB x22]) [] H21 (by subst hx22; kernel_rfl) trivial fun _ _ H24 hb => ?_
    replace hS:=hS.below hb
    refine w_if H24 rfl (fun hc => ?_) (fun hc => ?c30)
    case c30 =>
     replace hm:=bF hc hm
     apply w_skip
     obtain rfl:=someE hm
     exact ⟨FrG.keep (ks:=[3,8,9,10]) H24 (by kernel_rfl),hS⟩
    replace hm:=bT hc hm
    apply wl_start
    refine wl_batch 0 6 [] [3,8,9,10,25,26] (fS [3,8,9,10,25,26] [.slice (some ⟨b5,0,none⟩) ((ofB s).length) c6,.slice (some ⟨b5,0,none⟩) ((ofB s).length) c6,vI (ln (ofB s)),vI v14,vU (wu8 ((wu8 ((gi v15 v14) + 97)) - 65)),.pointer (some ⟨b5,0 + (v14).toNat * 1,none⟩)]) [fun _ => oka (some ⟨b5,0,none⟩) ∧ 0 ≤ v14 ∧ v14 < ln (ofB s)] H24 (by decide) (by kernel_rfl) ⟨(⟨rfl,ho19⟩),trivial⟩ fun _ _ H26 hb => ?_
    replace hS:=hS.below hb
    have hd:=hS.hand [0] [] rfl rfl
    refine m_stp0 [3,8,9,10] (fS [3,8,9,10] [.slice (some ⟨b5,0,none⟩) ((ofB s).length) c6,.slice (some ⟨b5,0,none⟩) ((ofB s).length) c6,vI (ln (ofB s)),vI v14]) H26 rfl rfl rfl (o_rstore H26 hd rfl rfl (by kernel_rfl) ho19) rfl fun _ _ H28 hq => ?_
    obtain ⟨_,hq⟩:=hq
    obtain ⟨q29,hq29,hm⟩:=letE hm
    rw [← hq29] at hq
    replace hS : SH M X w [Ent.row .u8 b5 q29 (ln (ofB s))] _:=hS.join [0] [] rfl rfl hq
    apply wl_end rfl
    obtain rfl:=someE hm
    exact ⟨FrG.keep (ks:=[3,8,9,10]) H28 (by kernel_rfl),hS⟩
   ·rintro _ _ ⟨H,hS⟩
    refine w_reg [] [3,8,9,10] (fS [3,8,9,10] [.slice (some ⟨b5,0,none⟩) ((ofB s).length) c6,.slice (some ⟨b5,0,none⟩) ((ofB s).length) c6,vI (ln (ofB s)),vI (w64 (v14 + 1))]) [] H (by kernel_rfl) trivial fun _ _ H32 hb => ?_
    replace hS:=hS.below hb
    exact ⟨_,Nat.lt_succ_self _,w64 (v14 + 1),z18,hm,FrG.keep (ks:=[3,8,9,10]) H32 (by kernel_rfl),hS⟩
 ·rintro _ _ ⟨H,hS⟩
  refine s_reg [(vS (toB z11))] [2] [(2,[],vS (toB z11))] [fun wz => ∀ w',Below wz.heap.size wz w' → (convert 75 9 (.slice (some ⟨b5,0,none⟩) ((ofB s).length) c6)).run Tryz.prog w' = .ok (vS (toB z11)) w'] H (by kernel_rfl) ⟨(conv_row (E:=5) (by kernel_rfl) (by kernel_rfl) (by kernel_rfl) (hS.rw 0 rfl).1 (hS.rw 0 rfl).2),trivial⟩ fun _ _ H37 hb => ?_
  replace hS:=hS.below hb
  replace hS : SH M X w [] _:=hS.sel [] rfl
  apply w_ret
  obtain rfl:=someE hm
  exact retR1 H37 rfl rfl ⟨_,rfl,rfl,(hS.sel [] rfl)⟩
theorem short_small_ok  (m : Nat) (s : Str) (r : Str) (hm : short_small m s = some r) : Ret Tryz.prog 29 ⟨[vS s]⟩ (vS r):=retP_of (Tryz.call29 _) (fun w h => short_small_w F0 m   s r hm w h)

theorem short_Wide_w {g_l_ : Gh} (M : Av) (m : Nat) (l_ : List TValue) (r : Str) (hm : short_Wide m l_ = some r) (w : World) (hS : S0 M [eI tyValue l_ g_l_] w) : Calls Tryz.prog 12 ⟨[vL g_l_ l_]⟩ w (fun e w' => ∃ v,e = .returned v ∧ v = vS r ∧ SH M (fpl [eI tyValue l_ g_l_]) w [] w'):=by
 rw [short_Wide] at hm
 have hS0 : SH M (fpl [eI tyValue l_ g_l_]) w [eI tyValue l_ g_l_] w:=hS
 generalize hX : fpl [eI tyValue l_ g_l_] = X at hS0 ⊢
 clear hS hX
 have hS:=hS0
 clear hS0
 refine calls_entryP Tryz.func12 rfl Tryz.ntmps12 rfl fun _ H => ?_
 refine s_reg [] [0] [(0,[],vL g_l_ l_)] [] H (by kernel_rfl) trivial fun _ _ H2 hb => ?_
 replace hS:=hS.below hb
 obtain ⟨z3,hz,hm_z3⟩:=bindE hm
 refine w_cut (fun a' w' => ∃ s_z3 : Unit,z3 = Sum.inr s_z3 ∧ Fr 25 [] a' ∧ SH M X w [eI tyValue l_ g_l_] w') ?_ ?_
 ·replace hm:=hz
  obtain ⟨ho4,hm⟩:=chkE hm
  obtain ⟨x5,hx5,hm⟩:=letE hm
  refine s_reg [(vU ((gi l_ (0 : Int)).Token.Kind))] [0,14] (fS [0,14] [vL g_l_ l_,vB x5]) [fun _ => (((ln l_) == 1) = true ∧ True → oka g_l_.a ∧ 0 ≤ (0 : Int) ∧ (0 : Int) < ln l_),fun wz => (((ln l_) == 1) = true ∧ True → V.at1 ⟨ab g_l_.a,ao g_l_.a + ((0 : Int)).toNat * 6,none⟩ (vU ((gi l_ (0 : Int)).Token.Kind)) wz)] H2 (by subst hx5; kernel_rfl) ⟨fun hg => (hS.im 0 rfl).oki (ho4 hg.1),fun hg => (hS.im 0 rfl).at1 (ho4 hg.1) 0 rfl,trivial⟩ fun _ _ H7 hb => ?_
  replace hS:=hS.below hb
  refine w_if H7 rfl (fun hc => ?_) (fun hc => ?c22)
  case c22 =>
   replace hm:=bF hc hm
   apply w_skip
   obtain rfl:=someE hm
   exact ⟨_,rfl,FrG.keep (ks:=[]) H7 (by kernel_rfl),hS⟩
  replace hm:=bT hc hm
  obtain ⟨ho8,hm⟩:=chkE hm
  obtain ⟨y9,hy9,hm⟩:=bindE hm
  refine s_reg [(vS (gi l_ (0 : Int)).Token.Text),(vS y9)] [3] [(3,[],vS y9)] [fun _ => oka g_l_.a ∧ 0 ≤ (0 : Int) ∧ (0 : Int) < ln l_,fun wz => V.at1 ⟨ab g_l_.a,ao g_l_.a + ((0 : Int)).toNat * 6 + 1,none⟩ (vS (gi l_ (0 : Int)).Token.Text) wz,rB 29 [vS (gi l_ (0 : Int)).Token.Text] (vS y9)] H7 (by kernel_rfl) ⟨((hS.im 0 rfl).oki ho8),((hS.im 0 rfl).at1 ho8 1 rfl),((short_small_ok m _ _ hy9).b),trivial⟩ fun _ _ H11 hb => ?_
  replace hS:=hS.below hb
  apply w_seq
  apply wl_start
  have hd:=hS.hand [] [0] rfl rfl
  refine m_stp [21,3] [(3,[],vS y9)] H11 rfl rfl rfl rfl (o_lit (T:=tS) (E:=9) (zv:=vN) [vS [105,110,105,116,105,97,108],vS [105,110,104,101,114,105,116],vS [117,110,115,101,116],vS [114,101,118,101,114,116]] kL8 [gL [],gL [],gL [],gL []] _ H11 hd rfl (by kernel_rfl) (by kernel_rfl) (by kernel_rfl) (by kernel_rfl) (by kernel_rfl) (by kernel_rfl) (by kernel_rfl) rfl (InnL.cons trivial (InnL.cons trivial (InnL.cons trivial (InnL.cons trivial InnL.nil))))) (fun _ => rfl) fun _ _ v H15 hq => ?_
  obtain ⟨g12,rfl,hq⟩:=hq
  replace hS : SH M X w [eO 9 tS kL8 g12,eI tyValue l_ g_l_] _:=hS.join [] [0] rfl rfl hq
  obtain ⟨y16,hy16,hm⟩:=bindE hm
  refine wl_batch 1 3 [(vB y16)] [3,23] (fS [3,23] [vS y9,vB y16]) [rB 30 [vK g12 4,vS y9] (vB y16)] H15 (by decide) (by kernel_rfl) ⟨(slices_Contains_string_string_ok (g_s:=g12) 64 _ _ _ hy16 _ (s0im s0nil (hS.osl 0 rfl))),trivial⟩ fun _ _ H18 hb => ?_
  replace hS:=hS.below hb
  apply wl_end rfl
  replace hS : SH M X w [eI tyValue l_ g_l_] _:=hS.sel [1] rfl
  refine w_if H18 rfl (fun hc => ?_) (fun hc => ?c21)
  case c21 =>
   replace hm:=bF hc hm
   apply w_skip
   obtain rfl:=someE hm
   exact ⟨_,rfl,FrG.keep (ks:=[]) H18 (by kernel_rfl),hS⟩
  replace hm:=bT hc hm
  refine s_reg [] [2] [(2,[],vS y9)] [] H18 (by kernel_rfl) trivial fun _ _ H20 hb => ?_
  replace hS:=hS.below hb
  apply w_ret
  obtain rfl:=someE hm
  have hm:=hm_z3
  obtain rfl:=someE hm
  exact retR1 H20 rfl rfl ⟨_,rfl,rfl,(hS.sel [] rfl)⟩
 ·rintro _ _ ⟨s_z3,hz,H,hS⟩
  subst hz
  replace hm:=sumR hm_z3
  replace hS : SH M X w [] _:=hS.sel [] rfl
  refine s_reg [] [2] [(2,[],vN)] [] H (by kernel_rfl) trivial fun _ _ H24 hb => ?_
  replace hS:=hS.below hb
  apply w_ret
  obtain rfl:=someE hm
  exact retR1 H24 rfl rfl ⟨_,rfl,rfl,(hS.sel [] rfl)⟩
theorem short_Wide_ok {g_l_ : Gh} (m : Nat) (l_ : List TValue) (r : Str) (hm : short_Wide m l_ = some r) (w : World) (hL : S0 F0 [eI tyValue l_ g_l_] w ∧ fpl [eI tyValue l_ g_l_] = []) : RetB Tryz.prog 12 ⟨[vL g_l_ l_]⟩ (vS r) w:=retB_of hL (Tryz.call12 _) (fun w' h => short_Wide_w F0 m   l_ r hm w' h)

theorem wide_unset_w  (M : Av) (m : Nat) (name_ : Str) (r : Str) (hm : wide_unset m name_ = some r) (w : World) (hS : S0 M [gE0] w) : Calls Tryz.prog 48 ⟨[vS name_]⟩ w (fun e w' => ∃ v,e = .returned v ∧ v = vS r ∧ SH M (fpl [gE0]) w [] w'):=by
 rw [wide_unset] at hm
 have hS0 : SH M (fpl [gE0]) w [gE0] w:=hS
 generalize hX : fpl [gE0] = X at hS0 ⊢
 clear hS hX
 have hS:=hS0
 clear hS0
 refine calls_entryP Tryz.func48 rfl Tryz.ntmps48 rfl fun _ H => ?_
 refine s_reg [] [0] [(0,[],vS name_)] [] H (by kernel_rfl) trivial fun _ _ H2 hb => ?_
 replace hS:=hS.below hb
 apply w_seq
 obtain ⟨y3,hy3,hm⟩:=bindE hm
 refine s_reg [(vW [vB y3.1,vI y3.2])] [3] [(3,[],vB y3.1)] [rB 16 [vS name_] (vW [vB y3.1,vI y3.2])] H2 (by kernel_rfl) ⟨(props_Inherited_ok 64 _ _ hy3 _ (s0im s0nil (hS.im 0 rfl))),trivial⟩ fun _ _ H5 hb => ?_
 replace hS:=hS.below hb
 refine s_reg [] [10] [(10,[],vB y3.1)] [] H5 (by kernel_rfl) trivial fun _ _ H7 hb => ?_
 replace hS:=hS.below hb
 refine w_if H7 rfl (fun hc => ?c12) (fun hc => ?_)
 case c12 =>
  replace hm:=bT hc hm
  refine s_reg [] [2] [(2,[],vS [105,110,104,101,114,105,116])] [] H7 (by kernel_rfl) trivial fun _ _ H9 hb => ?_
  replace hS:=hS.below hb
  apply w_ret
  obtain rfl:=someE hm
  exact retR1 H9 rfl rfl ⟨_,rfl,rfl,(hS.sel [] rfl)⟩
 replace hm:=bF hc hm
 apply w_skip
 refine s_reg [] [2] [(2,[],vS [105,110,105,116,105,97,108])] [] H7 (by kernel_rfl) trivial fun _ _ H11 hb => ?_
 replace hS:=hS.below hb
 apply w_ret
 obtain rfl:=someE hm
 exact retR1 H11 rfl rfl ⟨_,rfl,rfl,(hS.sel [] rfl)⟩
theorem wide_unset_ok  (m : Nat) (name_ : Str) (r : Str) (hm : wide_unset m name_ = some r) (w : World) (hL : S0 F0 [gE0] w ∧ fpl [gE0] = []) : RetB Tryz.prog 48 ⟨[vS name_]⟩ (vS r) w:=retB_of hL (Tryz.call48 _) (fun w' h => wide_unset_w F0 m   name_ r hm w' h)

theorem Inn_TValue_nc {M : Av} {w : World} {x : TValue} {g : Nat → Gh} (h : Inn_TValue M w x g) : Inn_TValue (fun b => M b ∨ Ncell w b) w x g:=by
  induction h with
  | mk x g h0 _h1 ih1 => exact .mk x g (SlC.nc (z:=6) (enc:=enc_TValue) (by decide) (fun _ _ => rfl) h0) ih1
theorem nc_tyValue : TyNc tyValue:=⟨by decide,fun _ _ _ _ h => Inn_TValue_nc h⟩
theorem nc_tyDeclared : TyNc tyDeclared:=⟨by decide,fun _ _ _ _ h => tyDeclared_mk (SlG.nc nc_tyValue (tyDeclared_i0 h))⟩
def wide_decide_S (rec_ : (List TDeclared) → Int → Str → Option (Int × Str)) : Prop:=∀ (g_l_ : Gh) (M : Av) (l_ : List TDeclared) (below : Int) (name_ : Str) (r : Int × Str),rec_ l_ below name_ = some r → ∀ w,S0 M [eI tyDeclared l_ g_l_,gE0] w → Calls Tryz.prog 26 ⟨[vL g_l_ l_,vU below,vS name_]⟩ w (fun e w' => ∃ v,e = .returned v ∧ v = vW [vI r.1,vS r.2] ∧ SH M (fpl [eI tyDeclared l_ g_l_,gE0]) w [] w')
theorem wide_mean_2_w {g_l_ : Gh} (M : Av) (m : Nat) (rec_wide_decide : (List TDeclared) → Int → Str → Option (Int × Str)) (hrec_wide_decide : wide_decide_S rec_wide_decide) (l_ : List TDeclared) (at_ : Int) (word : Str) (r : Int × Str) (hm : wide_mean_2 m rec_wide_decide l_ at_ word = some r) (w : World) (hS : S0 M [eI tyDeclared l_ g_l_,gE0] w) : Calls Tryz.prog 31 ⟨[vL g_l_ l_,vI at_,vS word]⟩ w (fun e w' => ∃ v,e = .returned v ∧ v = vW [vI r.1,vS r.2] ∧ SH M (fpl [eI tyDeclared l_ g_l_,gE0]) w [] w'):=by
 rw [wide_mean_2] at hm
 have hS0 : SH M (fpl [eI tyDeclared l_ g_l_,gE0]) w [eI tyDeclared l_ g_l_,gE0] w:=hS
 generalize hX : fpl [eI tyDeclared l_ g_l_,gE0] = X at hS0 ⊢
 clear hS hX
 have hS:=hS0
 clear hS0
 refine calls_entryP Tryz.func31 rfl Tryz.ntmps31 rfl fun _ H => ?_
 refine s_reg [] [0,1,2] (fS [0,1,2] [vL g_l_ l_,vI at_,vS word]) [] H (by kernel_rfl) trivial fun _ _ H2 hb => ?_
 replace hS:=hS.below hb
 obtain ⟨ho3,hm⟩:=chkE hm
 refine s_reg [(vS (gi l_ at_).Long.Name)] [0,1,2,8] (fS [0,1,2,8] [vL g_l_ l_,vI at_,vS word,vS (gi l_ at_).Long.Name]) [fun _ => oka g_l_.a ∧ 0 ≤ at_ ∧ at_ < ln l_,fun wz => V.at1 ⟨ab g_l_.a,ao g_l_.a + (at_).toNat * 11,none⟩ (vS (gi l_ at_).Long.Name) wz] H2 (by kernel_rfl) ⟨((hS.im 0 rfl).oki ho3),((hS.im 0 rfl).at1 ho3 0 rfl),trivial⟩ fun _ _ H5 hb => ?_
 replace hS:=hS.below hb
 apply w_seq
 refine s_reg [] [0,1,2,8,15] (fS [0,1,2,8,15] [vL g_l_ l_,vI at_,vS word,vS (gi l_ at_).Long.Name,vS word]) [] H5 (by kernel_rfl) trivial fun _ _ H7 hb => ?_
 replace hS:=hS.below hb
 apply w_block
 refine s_reg [] [0,1,2,8,15,16] (fS [0,1,2,8,15,16] [vL g_l_ l_,vI at_,vS word,vS (gi l_ at_).Long.Name,vS word,vB (word == [114,101,118,101,114,116])]) [] H7 (by kernel_rfl) trivial fun _ _ H9 hb => ?_
 replace hS:=hS.below hb
 refine w_if H9 rfl (fun hc => ?c21) (fun hc => ?_)
 case c21 =>
  replace hm:=bT hc hm
  obtain ⟨y10,hy10,hm⟩:=bindE hm
  refine s_reg [(vU ((gi l_ at_).Origin)),(vW [vI y10.1,vS y10.2])] [6,7] (fS [6,7] [vI y10.1,vS y10.2]) [fun _ => oka g_l_.a ∧ 0 ≤ at_ ∧ at_ < ln l_,fun wz => V.at1 ⟨ab g_l_.a,ao g_l_.a + (at_).toNat * 11 + 4,none⟩ (vU ((gi l_ at_).Origin)) wz,rB 26 [vL g_l_ l_,vU ((gi l_ at_).Origin),vS (gi l_ at_).Long.Name] (vW [vI y10.1,vS y10.2])] H9 (by kernel_rfl) ⟨((hS.im 0 rfl).oki ho3),((hS.im 0 rfl).at1 ho3 4 rfl),(retB_of (s0im (s0im s0nil (hS.im 1 rfl)) (hS.im 0 rfl)) (Tryz.call26 _) (fun w' h' => hrec_wide_decide (g_l_) F0 _ _ _ _ hy10 w' h')),trivial⟩ fun _ _ H12 hb => ?_
  replace hS:=hS.below hb
  replace hS : SH M X w [gE0] _:=hS.sel [1] rfl
  apply w_ret
  obtain rfl:=someE hm
  exact retR2 H12 rfl rfl rfl ⟨_,rfl,rfl,(hS.sel [] rfl)⟩
 replace hm:=bF hc hm
 refine s_reg [] [2,8,28] (fS [2,8,28] [vS word,vS (gi l_ at_).Long.Name,vB (word == [117,110,115,101,116])]) [] H9 (by kernel_rfl) trivial fun _ _ H14 hb => ?_
 replace hS:=hS.below hb
 replace hS : SH M X w [gE0] _:=hS.sel [1] rfl
 refine w_if H14 rfl (fun hc => ?_) (fun hc => ?c20)
 case c20 =>
  replace hm:=bF hc hm
  apply w_skip
  refine s_reg [] [6,7] (fS [6,7] [vI (-1),vS word]) [] H14 (by kernel_rfl) trivial fun _ _ H19 hb => ?_
  replace hS:=hS.below hb
  apply w_ret
  obtain rfl:=someE hm
  exact retR2 H19 rfl rfl rfl ⟨_,rfl,rfl,(hS.sel [] rfl)⟩
 replace hm:=bT hc hm
 obtain ⟨y15,hy15,hm⟩:=bindE hm
 refine s_reg [(vS y15)] [6,7] (fS [6,7] [vI (-1),vS y15]) [rB 48 [vS (gi l_ at_).Long.Name] (vS y15)] H14 (by kernel_rfl) ⟨(wide_unset_ok m _ _ hy15 _ (s0im s0nil (hS.im 0 rfl))),trivial⟩ fun _ _ H17 hb => ?_
 replace hS:=hS.below hb
 apply w_ret
 obtain rfl:=someE hm
 exact retR2 H17 rfl rfl rfl ⟨_,rfl,rfl,(hS.sel [] rfl)⟩
theorem wide_mean_2_ok {g_l_ : Gh} (m : Nat) (rec_wide_decide : (List TDeclared) → Int → Str → Option (Int × Str)) (hrec_wide_decide : wide_decide_S rec_wide_decide) (l_ : List TDeclared) (at_ : Int) (word : Str) (r : Int × Str) (hm : wide_mean_2 m rec_wide_decide l_ at_ word = some r) (w : World) (hL : S0 F0 [eI tyDeclared l_ g_l_,gE0] w ∧ fpl [eI tyDeclared l_ g_l_,gE0] = []) : RetB Tryz.prog 31 ⟨[vL g_l_ l_,vI at_,vS word]⟩ (vW [vI r.1,vS r.2]) w:=retB_of hL (Tryz.call31 _) (fun w' h => wide_mean_2_w F0 m rec_wide_decide hrec_wide_decide l_ at_ word r hm w' h)
theorem wide_decide_w (m : Nat) : ∀ (k : Nat),wide_decide_S (wide_decide_r m  k):=by
 intro k
 induction k with
 | zero => intro g_l_ M l_ below name_ r hm; exact noneE hm
 | succ k ih =>
  intro g_l_ M l_ below name_ r hm w hS
  rw [wide_decide_r] at hm
  have hS0 : SH M (fpl [eI tyDeclared l_ g_l_,gE0]) w [eI tyDeclared l_ g_l_,gE0] w:=hS
  generalize hX : fpl [eI tyDeclared l_ g_l_,gE0] = X at hS0 ⊢
  clear hS hX
  have hS:=hS0
  clear hS0
  refine calls_entryM Tryz.func26 rfl Tryz.ntmps26 rfl fun _ H => ?_
  apply w_seq
  apply wl_start
  have hd:=hS.hand [] [0,1] rfl rfl
  refine m_stp [3,1,2] (fS [1,2] [vU below,vS name_]) H rfl rfl rfl rfl (o_box [vL g_l_ l_] H hd rfl rfl) (fun _ => rfl) fun _ _ v H3 hq => ?_
  obtain ⟨b1,rfl,hq⟩:=hq
  replace hS : SH M X w [eB b1 [vL g_l_ l_],eI tyDeclared l_ g_l_,gE0] _:=hS.join [] [0,1] rfl rfl hq
  have hd:=hS.hand [] [0,1,2] rfl rfl
  refine m_stp [4,2,3] (fS [2,3] [vS name_,vP b1]) H3 rfl rfl rfl rfl (o_box [vU below] H3 hd rfl rfl) (fun _ => rfl) fun _ _ v H6 hq => ?_
  obtain ⟨b4,rfl,hq⟩:=hq
  replace hS : SH M X w [eB b4 [vU below],eB b1 [vL g_l_ l_],eI tyDeclared l_ g_l_,gE0] _:=hS.join [] [0,1,2] rfl rfl hq
  have hd:=hS.hand [] [0,1,2,3] rfl rfl
  refine m_stp [5,3,4] (fS [3,4] [vP b1,vP b4]) H6 rfl rfl rfl rfl (o_box [vS name_] H6 hd rfl rfl) (fun _ => rfl) fun _ _ v H9 hq => ?_
  obtain ⟨b7,rfl,hq⟩:=hq
  replace hS : SH M X w [eB b7 [vS name_],eB b4 [vU below],eB b1 [vL g_l_ l_],eI tyDeclared l_ g_l_,gE0] _:=hS.join [] [0,1,2,3] rfl rfl hq
  have hd:=hS.hand [] [0,1,2,3,4] rfl rfl
  refine m_stp [6,3,4,5] (fS [3,4,5] [vP b1,vP b4,vP b7]) H9 rfl rfl rfl rfl (o_alloc [vI 0] (z:=vI 0) hd (by kernel_rfl) rfl) (fun _ => rfl) fun _ _ v H12 hq => ?_
  obtain ⟨b10,rfl,hq⟩:=hq
  replace hS : SH M X w [eB b10 [vI 0],eB b7 [vS name_],eB b4 [vU below],eB b1 [vL g_l_ l_],eI tyDeclared l_ g_l_,gE0] _:=hS.join [] [0,1,2,3,4] rfl rfl hq
  have hd:=hS.hand [] [0,1,2,3,4,5] rfl rfl
  refine m_stp [7,3,4,5,6] (fS [3,4,5,6] [vP b1,vP b4,vP b7,vP b10]) H12 rfl rfl rfl rfl (o_alloc [vN] (z:=vN) hd (by kernel_rfl) rfl) (fun _ => rfl) fun _ _ v H15 hq => ?_
  obtain ⟨b13,rfl,hq⟩:=hq
  replace hS : SH M X w [eB b13 [vN],eB b10 [vI 0],eB b7 [vS name_],eB b4 [vU below],eB b1 [vL g_l_ l_],eI tyDeclared l_ g_l_,gE0] _:=hS.join [] [0,1,2,3,4,5] rfl rfl hq
  apply wl_end rfl
  apply w_seq
  apply w_seq
  apply wl_start
  refine wl_batch 0 1 [(vL g_l_ l_)] [3,4,5,6,7,11] (fS [3,4,5,6,7,11] [vP b1,vP b4,vP b7,vP b10,vP b13,vL g_l_ l_]) [rA b1 0 (vL g_l_ l_)] H15 (by decide) (by kernel_rfl) ⟨((hS.bk 4 rfl).at1 rfl),trivial⟩ fun _ _ H17 hb => ?_
  replace hS:=hS.below hb
  obtain ⟨y18,hy18,hm⟩:=letE hm
  have hd:=hS.hand [5] [0,1,2,3,4,5,6] rfl rfl
  refine m_stp [12,3,4,5,6,7] (fS [3,4,5,6,7] [vP b1,vP b4,vP b7,vP b10,vP b13]) H17 rfl rfl rfl rfl (o_callx H17 rfl rfl (slices_Backward_api_Declared_api_Declared_ok (g_s:=g_l_) _ _ hy18.symm _ _ hd)) (fun _ => rfl) fun _ _ v H23 hq => ?_
  obtain ⟨b19,g20,rfl,hq⟩:=hq
  replace hS : SH M X w [eB b19 [vL g20 y18],eI tyDeclared y18 g20,eB b13 [vN],eB b10 [vI 0],eB b7 [vS name_],eB b4 [vU below],eB b1 [vL g_l_ l_],eI tyDeclared l_ g_l_,gE0] _:=hS.join [5] [0,1,2,3,4,5,6] rfl rfl hq
  apply wl_end rfl
  apply w_block
  replace hS : SH M X w [Ent.ro b19 [vL g20 y18],eI tyDeclared y18 g20,eB b13 [vN],eB b10 [vI 0],eB b7 [vS name_],eB b4 [vU below],eB b1 [vL g_l_ l_],eI tyDeclared l_ g_l_,gE0] _:=SH.ro1 (hS.sel [0,1,2,3,4,5,6,7,8] rfl)
  obtain ⟨ho25,hm⟩:=chkE hm
  refine w_range (fr:=(fS [3,4,5,6,7,12] [vP b1,vP b4,vP b7,vP b10,vP b13,.func (.func 73) ⟨[]⟩ ⟨[vP b19]⟩])) (fun kR _ => ∃ kk,wide_decide_L1 m l_ below name_ y18 (wide_decide_r m k) kk (((y18).length : Int) - 1 - (kR : Int)) = some r) (fun (_ : Unit) => [Ent.ro b19 [vL g20 y18],eI tyDeclared y18 g20,eB b13 [vN],eB b10 [vI 0],eB b7 [vS name_],eB b4 [vU below],eB b1 [vL g_l_ l_],eI tyDeclared l_ g_l_,gE0]) (fun (yR : Int × Str) => yR = r) (fun yR => [eB b10 [vI yR.1],eB b13 [vS yR.2]]) (fun kR => (fS [13,14,3,4,5,6,7,12] [vI (((y18).length : Int) - 1 - (kR : Int)),vG [vS ((gi y18 (((y18).length : Int) - 1 - (kR : Int))).Long.Name),.slice (g20.s ((((y18).length : Int) - 1 - (kR : Int))).toNat 0).a (((gi y18 (((y18).length : Int) - 1 - (kR : Int))).Long.Value).length) (g20.s ((((y18).length : Int) - 1 - (kR : Int))).toNat 0).c,vS ((gi y18 (((y18).length : Int) - 1 - (kR : Int))).Long.Whole),vB ((gi y18 (((y18).length : Int) - 1 - (kR : Int))).Important),vU ((gi y18 (((y18).length : Int) - 1 - (kR : Int))).Origin),vB ((gi y18 (((y18).length : Int) - 1 - (kR : Int))).Attached),vI ((gi y18 (((y18).length : Int) - 1 - (kR : Int))).Layer),vI ((gi y18 (((y18).length : Int) - 1 - (kR : Int))).Weight.e0),vI ((gi y18 (((y18).length : Int) - 1 - (kR : Int))).Weight.e1),vI ((gi y18 (((y18).length : Int) - 1 - (kR : Int))).Weight.e2),vI ((gi y18 (((y18).length : Int) - 1 - (kR : Int))).Order)],vP b1,vP b4,vP b7,vP b10,vP b13,.func (.func 73) ⟨[]⟩ ⟨[vP b19]⟩])) (fun kR _ (dR : Nat) => (fS [3,4,5,6,7,8,9] [vP b1,vP b4,vP b7,vP b10,vP b13,vI (((y18).length : Int) - 1 - (kR : Int)),vP dR])) (fun kR _ dR => [eB dR [vS ((gi y18 (((y18).length : Int) - 1 - (kR : Int))).Long.Name),.slice (g20.s ((((y18).length : Int) - 1 - (kR : Int))).toNat 0).a (((gi y18 (((y18).length : Int) - 1 - (kR : Int))).Long.Value).length) (g20.s ((((y18).length : Int) - 1 - (kR : Int))).toNat 0).c,vS ((gi y18 (((y18).length : Int) - 1 - (kR : Int))).Long.Whole),vB ((gi y18 (((y18).length : Int) - 1 - (kR : Int))).Important),vU ((gi y18 (((y18).length : Int) - 1 - (kR : Int))).Origin),vB ((gi y18 (((y18).length : Int) - 1 - (kR : Int))).Attached),vI ((gi y18 (((y18).length : Int) - 1 - (kR : Int))).Layer),vI ((gi y18 (((y18).length : Int) - 1 - (kR : Int))).Weight.e0),vI ((gi y18 (((y18).length : Int) - 1 - (kR : Int))).Weight.e1),vI ((gi y18 (((y18).length : Int) - 1 - (kR : Int))).Weight.e2),vI ((gi y18 (((y18).length : Int) - 1 - (kR : Int))).Order)],Ent.ro b19 [vL g20 y18],eI tyDeclared y18 g20,eB b13 [vN],eB b10 [vI 0],eB b7 [vS name_],eB b4 [vU below],eB b1 [vL g_l_ l_],eI tyDeclared l_ g_l_,gE0]) 73 [vP b19] (fun kR => [vI (((y18).length : Int) - 1 - (kR : Int)),vG [vS ((gi y18 (((y18).length : Int) - 1 - (kR : Int))).Long.Name),.slice (g20.s ((((y18).length : Int) - 1 - (kR : Int))).toNat 0).a (((gi y18 (((y18).length : Int) - 1 - (kR : Int))).Long.Value).length) (g20.s ((((y18).length : Int) - 1 - (kR : Int))).toNat 0).c,vS ((gi y18 (((y18).length : Int) - 1 - (kR : Int))).Long.Whole),vB ((gi y18 (((y18).length : Int) - 1 - (kR : Int))).Important),vU ((gi y18 (((y18).length : Int) - 1 - (kR : Int))).Origin),vB ((gi y18 (((y18).length : Int) - 1 - (kR : Int))).Attached),vI ((gi y18 (((y18).length : Int) - 1 - (kR : Int))).Layer),vI ((gi y18 (((y18).length : Int) - 1 - (kR : Int))).Weight.e0),vI ((gi y18 (((y18).length : Int) - 1 - (kR : Int))).Weight.e1),vI ((gi y18 (((y18).length : Int) - 1 - (kR : Int))).Weight.e2),vI ((gi y18 (((y18).length : Int) - 1 - (kR : Int))).Order)]]) (y18).length (fun W => Blk W b19 [.slice g20.a (y18).length g20.c] ∧ SlG tyDeclared F0 W y18 g20) (FrG.keep (ks:=[3,4,5,6,7,12]) H23 (by kernel_rfl)) (by kernel_rfl) (fun args => Tryz.call73 args) () ⟨m,?h0_1⟩ hS (fun _ => ⟨nc_ro _ _,⟨nc_im nc_tyDeclared _ _,⟨nc_blk _ _,⟨nc_blk _ _,⟨nc_blk _ _,⟨nc_blk _ _,⟨nc_blk _ _,⟨nc_im nc_tyDeclared _ _,⟨nc_im (nc_I _) _ _,trivial⟩⟩⟩⟩⟩⟩⟩⟩⟩) (fun _ _ _ => ⟨nc_blk _ _,⟨nc_ro _ _,⟨nc_im nc_tyDeclared _ _,⟨nc_blk _ _,⟨nc_blk _ _,⟨nc_blk _ _,⟨nc_blk _ _,⟨nc_blk _ _,⟨nc_im nc_tyDeclared _ _,⟨nc_im (nc_I _) _ _,trivial⟩⟩⟩⟩⟩⟩⟩⟩⟩⟩) (fun _ => ⟨nc_blk _ _,⟨nc_blk _ _,trivial⟩⟩) (seq73 y18 g20 b19 _ ho25) (fun _ => rfl) (fun _ _ hS => ⟨hS.ro 0 rfl,(hS.im 1 rfl).f0⟩) (fun _ _ _ hd ht => fr_two (l:=(fS [3,4,5,6,7,12] [vP b1,vP b4,vP b7,vP b10,vP b13,.func (.func 73) ⟨[]⟩ ⟨[vP b19]⟩])) (FrG.keep (ks:=[3,4,5,6,7,12]) H23 (by kernel_rfl)) (by kernel_rfl) (by kernel_rfl) (by kernel_rfl) (by kernel_rfl) hd (ht.trans (zip_two _))) ?ha_1 ?hb_1 ?hn_1 ?hr_1
  case h0_1 => rw [show ((y18).length : Int) - 1 - ((0 : Nat) : Int) = ((y18).length : Int) - 1 from by omega]; exact hm
  case ha_1 =>
   intro lR kR _ wR aR hk _ H hS
   obtain ⟨v24,hvi⟩ : ∃ v,v = ((y18).length : Int) - 1 - (kR : Int):=⟨_,rfl⟩
   have hix : 0 ≤ v24 ∧ v24 < ln y18:=by unfold ln; omega
   replace H : Fr 45 (fS [13,14,3,4,5,6,7,12] [vI v24,vG [vS (gi y18 v24).Long.Name,.slice (g20.s (v24).toNat 0).a (((gi y18 v24).Long.Value).length) (g20.s (v24).toNat 0).c,vS (gi y18 v24).Long.Whole,vB ((gi y18 v24).Important),vU ((gi y18 v24).Origin),vB ((gi y18 v24).Attached),vI ((gi y18 v24).Layer),vI ((gi y18 v24).Weight.e0),vI ((gi y18 v24).Weight.e1),vI ((gi y18 v24).Weight.e2),vI ((gi y18 v24).Order)],vP b1,vP b4,vP b7,vP b10,vP b13,.func (.func 73) ⟨[]⟩ ⟨[vP b19]⟩]) aR:=by subst hvi; exact H
   replace hS : SH M (fpl [Ent.ro b19 [vL g20 y18],eI tyDeclared y18 g20,eB b13 [vN],eB b10 [vI 0],eB b7 [vS name_],eB b4 [vU below],eB b1 [vL g_l_ l_],eI tyDeclared l_ g_l_,gE0]) wR [Ent.ro b19 [vL g20 y18],eI tyDeclared y18 g20,eB b13 [vN],eB b10 [vI 0],eB b7 [vS name_],eB b4 [vU below],eB b1 [vL g_l_ l_],eI tyDeclared l_ g_l_,gE0] wR:=hS
   show Code.wpIn _ _ _ _ (Qs (fun a1 W1 => ∃ dR : Nat,Fr 45 (fS [3,4,5,6,7,8,9] [vP b1,vP b4,vP b7,vP b10,vP b13,vI (((y18).length : Int) - 1 - (kR : Int)),vP dR]) a1 ∧ SH M (fpl [Ent.ro b19 [vL g20 y18],eI tyDeclared y18 g20,eB b13 [vN],eB b10 [vI 0],eB b7 [vS name_],eB b4 [vU below],eB b1 [vL g_l_ l_],eI tyDeclared l_ g_l_,gE0]) wR [eB dR [vS ((gi y18 (((y18).length : Int) - 1 - (kR : Int))).Long.Name),.slice (g20.s ((((y18).length : Int) - 1 - (kR : Int))).toNat 0).a (((gi y18 (((y18).length : Int) - 1 - (kR : Int))).Long.Value).length) (g20.s ((((y18).length : Int) - 1 - (kR : Int))).toNat 0).c,vS ((gi y18 (((y18).length : Int) - 1 - (kR : Int))).Long.Whole),vB ((gi y18 (((y18).length : Int) - 1 - (kR : Int))).Important),vU ((gi y18 (((y18).length : Int) - 1 - (kR : Int))).Origin),vB ((gi y18 (((y18).length : Int) - 1 - (kR : Int))).Attached),vI ((gi y18 (((y18).length : Int) - 1 - (kR : Int))).Layer),vI ((gi y18 (((y18).length : Int) - 1 - (kR : Int))).Weight.e0),vI ((gi y18 (((y18).length : Int) - 1 - (kR : Int))).Weight.e1),vI ((gi y18 (((y18).length : Int) - 1 - (kR : Int))).Weight.e2),vI ((gi y18 (((y18).length : Int) - 1 - (kR : Int))).Order)],Ent.ro b19 [vL g20 y18],eI tyDeclared y18 g20,eB b13 [vN],eB b10 [vI 0],eB b7 [vS name_],eB b4 [vU below],eB b1 [vL g_l_ l_],eI tyDeclared l_ g_l_,gE0] W1) [] _) _ _
   rw [← hvi]
   refine sr_reg [] [3,4,5,6,7,8,14] (fS [3,4,5,6,7,8,14] [vP b1,vP b4,vP b7,vP b10,vP b13,vI v24,vG [vS (gi y18 v24).Long.Name,.slice (g20.s (v24).toNat 0).a (((gi y18 v24).Long.Value).length) (g20.s (v24).toNat 0).c,vS (gi y18 v24).Long.Whole,vB ((gi y18 v24).Important),vU ((gi y18 v24).Origin),vB ((gi y18 v24).Attached),vI ((gi y18 v24).Layer),vI ((gi y18 v24).Weight.e0),vI ((gi y18 v24).Weight.e1),vI ((gi y18 v24).Weight.e2),vI ((gi y18 v24).Order)]]) [] H (by kernel_rfl) (by kernel_rfl) trivial fun _ _ H27 hb => ?_
   replace hS:=hS.below hb
   refine rl_start (by kernel_rfl) ?_
   have hd:=hS.hand [] [0,1,2,3,4,5,6,7,8] rfl rfl
   refine m_stp [9,3,4,5,6,7,8,14] (fS [3,4,5,6,7,8,14] [vP b1,vP b4,vP b7,vP b10,vP b13,vI v24,vG [vS (gi y18 v24).Long.Name,.slice (g20.s (v24).toNat 0).a (((gi y18 v24).Long.Value).length) (g20.s (v24).toNat 0).c,vS (gi y18 v24).Long.Whole,vB ((gi y18 v24).Important),vU ((gi y18 v24).Origin),vB ((gi y18 v24).Attached),vI ((gi y18 v24).Layer),vI ((gi y18 v24).Weight.e0),vI ((gi y18 v24).Weight.e1),vI ((gi y18 v24).Weight.e2),vI ((gi y18 v24).Order)]]) H27 rfl rfl rfl rfl (o_alloc [vN,vO,vN,vF,vU 0,vF,vI 0,vI 0,vI 0,vI 0,vI 0] (z:=vG [vN,vO,vN,vF,vU 0,vF,vI 0,vI 0,vI 0,vI 0,vI 0]) hd (by kernel_rfl) rfl) (fun _ => rfl) fun _ _ v H30 hq => ?_
   obtain ⟨b28,rfl,hq⟩:=hq
   replace hS : SH M (fpl [Ent.ro b19 [vL g20 y18],eI tyDeclared y18 g20,eB b13 [vN],eB b10 [vI 0],eB b7 [vS name_],eB b4 [vU below],eB b1 [vL g_l_ l_],eI tyDeclared l_ g_l_,gE0]) wR [eB b28 [vN,vO,vN,vF,vU 0,vF,vI 0,vI 0,vI 0,vI 0,vI 0],Ent.ro b19 [vL g20 y18],eI tyDeclared y18 g20,eB b13 [vN],eB b10 [vI 0],eB b7 [vS name_],eB b4 [vU below],eB b1 [vL g_l_ l_],eI tyDeclared l_ g_l_,gE0] _:=hS.join [] [0,1,2,3,4,5,6,7,8] rfl rfl hq
   have hd:=hS.hand [0] [1,2,3,4,5,6,7,8,9] rfl rfl
   refine m_stp0 [3,4,5,6,7,8,9] (fS [3,4,5,6,7,8,9] [vP b1,vP b4,vP b7,vP b10,vP b13,vI v24,vP b28]) H30 rfl rfl rfl (o_store [vS (gi y18 v24).Long.Name,.slice (g20.s (v24).toNat 0).a (((gi y18 v24).Long.Value).length) (g20.s (v24).toNat 0).c,vS (gi y18 v24).Long.Whole,vB ((gi y18 v24).Important),vU ((gi y18 v24).Origin),vB ((gi y18 v24).Attached),vI ((gi y18 v24).Layer),vI ((gi y18 v24).Weight.e0),vI ((gi y18 v24).Weight.e1),vI ((gi y18 v24).Weight.e2),vI ((gi y18 v24).Order)] H30 hd rfl rfl (by kernel_rfl) rfl rfl rfl) rfl fun _ _ H32 hq => ?_
   obtain ⟨_,hq⟩:=hq
   replace hS : SH M (fpl [Ent.ro b19 [vL g20 y18],eI tyDeclared y18 g20,eB b13 [vN],eB b10 [vI 0],eB b7 [vS name_],eB b4 [vU below],eB b1 [vL g_l_ l_],eI tyDeclared l_ g_l_,gE0]) wR [eB b28 [vS (gi y18 v24).Long.Name,.slice (g20.s (v24).toNat 0).a (((gi y18 v24).Long.Value).length) (g20.s (v24).toNat 0).c,vS (gi y18 v24).Long.Whole,vB ((gi y18 v24).Important),vU ((gi y18 v24).Origin),vB ((gi y18 v24).Attached),vI ((gi y18 v24).Layer),vI ((gi y18 v24).Weight.e0),vI ((gi y18 v24).Weight.e1),vI ((gi y18 v24).Weight.e2),vI ((gi y18 v24).Order)],Ent.ro b19 [vL g20 y18],eI tyDeclared y18 g20,eB b13 [vN],eB b10 [vI 0],eB b7 [vS name_],eB b4 [vU below],eB b1 [vL g_l_ l_],eI tyDeclared l_ g_l_,gE0] _:=hS.join [0] [1,2,3,4,5,6,7,8,9] rfl rfl hq
   apply wl_end rfl
   exact ⟨b28,FrG.keep (ks:=[3,4,5,6,7,8,9]) H32 (by kernel_rfl),hS⟩
  case hb_1 =>
   intro lR kR _ dR wR aR hk hC H hS
   obtain ⟨kk,hm⟩:=hC
   obtain ⟨b28,hdR⟩ : ∃ x,x = dR:=⟨_,rfl⟩
   rw [← hdR] at H hS ⊢
   obtain ⟨v24,hvi⟩ : ∃ v,v = ((y18).length : Int) - 1 - (kR : Int):=⟨_,rfl⟩
   have hix : 0 ≤ v24 ∧ v24 < ln y18:=by unfold ln; omega
   replace H : Fr 45 (fS [3,4,5,6,7,8,9] [vP b1,vP b4,vP b7,vP b10,vP b13,vI v24,vP b28]) aR:=by subst hvi; exact H
   replace hS : SH M (fpl [eB b28 [vS (gi y18 v24).Long.Name,.slice (g20.s (v24).toNat 0).a (((gi y18 v24).Long.Value).length) (g20.s (v24).toNat 0).c,vS (gi y18 v24).Long.Whole,vB ((gi y18 v24).Important),vU ((gi y18 v24).Origin),vB ((gi y18 v24).Attached),vI ((gi y18 v24).Layer),vI ((gi y18 v24).Weight.e0),vI ((gi y18 v24).Weight.e1),vI ((gi y18 v24).Weight.e2),vI ((gi y18 v24).Order)],Ent.ro b19 [vL g20 y18],eI tyDeclared y18 g20,eB b13 [vN],eB b10 [vI 0],eB b7 [vS name_],eB b4 [vU below],eB b1 [vL g_l_ l_],eI tyDeclared l_ g_l_,gE0]) wR [eB b28 [vS (gi y18 v24).Long.Name,.slice (g20.s (v24).toNat 0).a (((gi y18 v24).Long.Value).length) (g20.s (v24).toNat 0).c,vS (gi y18 v24).Long.Whole,vB ((gi y18 v24).Important),vU ((gi y18 v24).Origin),vB ((gi y18 v24).Attached),vI ((gi y18 v24).Layer),vI ((gi y18 v24).Weight.e0),vI ((gi y18 v24).Weight.e1),vI ((gi y18 v24).Weight.e2),vI ((gi y18 v24).Order)],Ent.ro b19 [vL g20 y18],eI tyDeclared y18 g20,eB b13 [vN],eB b10 [vI 0],eB b7 [vS name_],eB b4 [vU below],eB b1 [vL g_l_ l_],eI tyDeclared l_ g_l_,gE0] wR:=by subst hvi; exact hS
   rw [← hvi] at hm
   show Code.wpIn _ _ _ _ (Qs (fun _ W1 => ∃ _ : Unit,(∃ kk,wide_decide_L1 m l_ below name_ y18 (wide_decide_r m k) kk (((y18).length : Int) - 1 - ((kR + 1 : Nat) : Int)) = some r) ∧ SH M (fpl [eB b28 [vS ((gi y18 (((y18).length : Int) - 1 - (kR : Int))).Long.Name),.slice (g20.s ((((y18).length : Int) - 1 - (kR : Int))).toNat 0).a (((gi y18 (((y18).length : Int) - 1 - (kR : Int))).Long.Value).length) (g20.s ((((y18).length : Int) - 1 - (kR : Int))).toNat 0).c,vS ((gi y18 (((y18).length : Int) - 1 - (kR : Int))).Long.Whole),vB ((gi y18 (((y18).length : Int) - 1 - (kR : Int))).Important),vU ((gi y18 (((y18).length : Int) - 1 - (kR : Int))).Origin),vB ((gi y18 (((y18).length : Int) - 1 - (kR : Int))).Attached),vI ((gi y18 (((y18).length : Int) - 1 - (kR : Int))).Layer),vI ((gi y18 (((y18).length : Int) - 1 - (kR : Int))).Weight.e0),vI ((gi y18 (((y18).length : Int) - 1 - (kR : Int))).Weight.e1),vI ((gi y18 (((y18).length : Int) - 1 - (kR : Int))).Weight.e2),vI ((gi y18 (((y18).length : Int) - 1 - (kR : Int))).Order)],Ent.ro b19 [vL g20 y18],eI tyDeclared y18 g20,eB b13 [vN],eB b10 [vI 0],eB b7 [vS name_],eB b4 [vU below],eB b1 [vL g_l_ l_],eI tyDeclared l_ g_l_,gE0]) wR [Ent.ro b19 [vL g20 y18],eI tyDeclared y18 g20,eB b13 [vN],eB b10 [vI 0],eB b7 [vS name_],eB b4 [vU below],eB b1 [vL g_l_ l_],eI tyDeclared l_ g_l_,gE0] W1) [] (fun _ W1 => ∃ yR : Int × Str,yR = r ∧ SH M (fpl [eB b28 [vS ((gi y18 (((y18).length : Int) - 1 - (kR : Int))).Long.Name),.slice (g20.s ((((y18).length : Int) - 1 - (kR : Int))).toNat 0).a (((gi y18 (((y18).length : Int) - 1 - (kR : Int))).Long.Value).length) (g20.s ((((y18).length : Int) - 1 - (kR : Int))).toNat 0).c,vS ((gi y18 (((y18).length : Int) - 1 - (kR : Int))).Long.Whole),vB ((gi y18 (((y18).length : Int) - 1 - (kR : Int))).Important),vU ((gi y18 (((y18).length : Int) - 1 - (kR : Int))).Origin),vB ((gi y18 (((y18).length : Int) - 1 - (kR : Int))).Attached),vI ((gi y18 (((y18).length : Int) - 1 - (kR : Int))).Layer),vI ((gi y18 (((y18).length : Int) - 1 - (kR : Int))).Weight.e0),vI ((gi y18 (((y18).length : Int) - 1 - (kR : Int))).Weight.e1),vI ((gi y18 (((y18).length : Int) - 1 - (kR : Int))).Weight.e2),vI ((gi y18 (((y18).length : Int) - 1 - (kR : Int))).Order)],Ent.ro b19 [vL g20 y18],eI tyDeclared y18 g20,eB b13 [vN],eB b10 [vI 0],eB b7 [vS name_],eB b4 [vU below],eB b1 [vL g_l_ l_],eI tyDeclared l_ g_l_,gE0]) wR [eB b10 [vI yR.1],eB b13 [vS yR.2]] W1)) _ _
   rw [← hvi]
   cases kk with
   | zero => exact noneE hm
   | succ kk =>
    rw [wide_decide_L1] at hm
    replace hm:=bF (decide_eq_false (show ¬ v24 < 0 from by omega)) hm
    refine r_block ?_
    refine r_seq ?_
    obtain ⟨x33,hx33,hm⟩:=letE hm
    refine sr_reg [(vS (gi y18 v24).Long.Name),(vS name_),(vU ((gi y18 v24).Origin)),(vU below)] [3,6,7,8,9,25] (fS [3,6,7,8,9,25] [vP b1,vP b10,vP b13,vI v24,vP b28,vB x33]) [rA b28 0 (vS (gi y18 v24).Long.Name),rA b7 0 (vS name_),fun wz => ((!(((gi y18 v24).Long.Name) == name_)) = false ∧ True → V.at1 ⟨b28,4,none⟩ (vU ((gi y18 v24).Origin)) wz),fun wz => ((!(((gi y18 v24).Long.Name) == name_)) = false ∧ True → V.at1 ⟨b4,0,none⟩ (vU below) wz)] H (by kernel_rfl) (by subst hx33; kernel_rfl) ⟨((hS.bk 0 rfl).at1 rfl),((hS.bk 5 rfl).at1 rfl),fun hg => (hS.bk 0 rfl).at1 rfl,fun hg => (hS.bk 6 rfl).at1 rfl,trivial⟩ fun _ _ H35 hb => ?_
    replace hS:=hS.below hb
    refine r_if H35 rfl (fun hc => ?c60) (fun hc => ?_)
    case c60 =>
     replace hm:=bT hc hm
     refine r_exit rfl ?_
     exact ⟨(),⟨kk,by rw [show ((y18).length : Int) - 1 - ((kR + 1 : Nat) : Int) = v24 - 1 from by omega]; exact hm⟩,hS.sel [1,2,3,4,5,6,7,8,9] rfl⟩
    replace hm:=bF hc hm
    refine r_skip ?_
    obtain ⟨z36,hz,hm_z36⟩:=bindE hm
    refine r_cut (fun a' w' => ∃ s_z36 : Unit,z36 = Sum.inr s_z36 ∧ Fr 45 (fS [6,7,8] [vP b10,vP b13,vI v24]) a' ∧ SH M (fpl [eB b28 [vS (gi y18 v24).Long.Name,.slice (g20.s (v24).toNat 0).a (((gi y18 v24).Long.Value).length) (g20.s (v24).toNat 0).c,vS (gi y18 v24).Long.Whole,vB ((gi y18 v24).Important),vU ((gi y18 v24).Origin),vB ((gi y18 v24).Attached),vI ((gi y18 v24).Layer),vI ((gi y18 v24).Weight.e0),vI ((gi y18 v24).Weight.e1),vI ((gi y18 v24).Weight.e2),vI ((gi y18 v24).Order)],Ent.ro b19 [vL g20 y18],eI tyDeclared y18 g20,eB b13 [vN],eB b10 [vI 0],eB b7 [vS name_],eB b4 [vU below],eB b1 [vL g_l_ l_],eI tyDeclared l_ g_l_,gE0]) wR [eB b28 [vS (gi y18 v24).Long.Name,.slice (g20.s (v24).toNat 0).a (((gi y18 v24).Long.Value).length) (g20.s (v24).toNat 0).c,vS (gi y18 v24).Long.Whole,vB ((gi y18 v24).Important),vU ((gi y18 v24).Origin),vB ((gi y18 v24).Attached),vI ((gi y18 v24).Layer),vI ((gi y18 v24).Weight.e0),vI ((gi y18 v24).Weight.e1),vI ((gi y18 v24).Weight.e2),vI ((gi y18 v24).Order)],Ent.ro b19 [vL g20 y18],eI tyDeclared y18 g20,eB b13 [vN],eB b10 [vI 0],eB b7 [vS name_],eB b4 [vU below],eB b1 [vL g_l_ l_],eI tyDeclared l_ g_l_,gE0] w') ?_ ?_
    ·replace hm:=hz
     refine sr_reg [(vS (gi y18 v24).Long.Whole)] [3,6,7,8,9,29] (fS [3,6,7,8,9,29] [vP b1,vP b10,vP b13,vI v24,vP b28,vB (((gi y18 v24).Long.Whole) == [])]) [rA b28 2 (vS (gi y18 v24).Long.Whole)] H35 (by kernel_rfl) (by kernel_rfl) ⟨((hS.bk 0 rfl).at1 rfl),trivial⟩ fun _ _ H38 hb => ?_
     replace hS:=hS.below hb
     refine r_if H38 rfl (fun hc => ?_) (fun hc => ?c52)
     case c52 =>
      replace hm:=bF hc hm
      refine r_skip ?_
      obtain rfl:=someE hm
      exact ⟨_,rfl,FrG.keep (ks:=[6,7,8]) H38 (by kernel_rfl),hS⟩
     replace hm:=bT hc hm
     obtain ⟨y39,hy39,hm⟩:=bindE hm
     refine sr_reg [(.slice (g20.s (v24).toNat 0).a (((gi y18 v24).Long.Value).length) (g20.s (v24).toNat 0).c),(vS y39)] [3,6,7,8,10] (fS [3,6,7,8,10] [vP b1,vP b10,vP b13,vI v24,vS y39]) [fun wz => V.at1 ⟨b28,1,none⟩ (.slice (g20.s (v24).toNat 0).a (((gi y18 v24).Long.Value).length) (g20.s (v24).toNat 0).c) wz,rB 12 [.slice (g20.s (v24).toNat 0).a (((gi y18 v24).Long.Value).length) (g20.s (v24).toNat 0).c] (vS y39)] H38 (by kernel_rfl) (by kernel_rfl) ⟨((hS.bk 0 rfl).at1 rfl),(short_Wide_ok (g_l_:=(g20.s (v24).toNat 0)) m _ _ hy39 _ (s0im s0nil (tyDeclared_i0 ((hS.im 2 rfl).el hix)))),trivial⟩ fun _ _ H41 hb => ?_
     replace hS:=hS.below hb
     refine sr_reg [] [3,6,7,8,10,35] (fS [3,6,7,8,10,35] [vP b1,vP b10,vP b13,vI v24,vS y39,vB (!(y39 == []))]) [] H41 (by kernel_rfl) (by kernel_rfl) trivial fun _ _ H43 hb => ?_
     replace hS:=hS.below hb
     refine r_if H43 rfl (fun hc => ?_) (fun hc => ?c51)
     case c51 =>
      replace hm:=bF hc hm
      refine r_skip ?_
      obtain rfl:=someE hm
      exact ⟨_,rfl,FrG.keep (ks:=[6,7,8]) H43 (by kernel_rfl),hS⟩
     replace hm:=bT hc hm
     refine r_seq ?_
     refine rl_start (by kernel_rfl) ?_
     obtain ⟨y44,hy44,hm⟩:=bindE hm
     refine wl_batch 0 6 [(vL g_l_ l_),(vW [vI y44.1,vS y44.2])] [6,7,40,41] (fS [6,7,40,41] [vP b10,vP b13,vI y44.1,vS y44.2]) [rA b1 0 (vL g_l_ l_),rB 31 [vL g_l_ l_,vI v24,vS y39] (vW [vI y44.1,vS y44.2])] H43 (by decide) (by kernel_rfl) ⟨((hS.bk 7 rfl).at1 rfl),(wide_mean_2_ok (g_l_:=g_l_) m _ ih _ _ _ _ hy44 _ (s0im (s0im s0nil (hS.im 9 rfl)) (hS.im 8 rfl))),trivial⟩ fun _ _ H46 hb => ?_
     replace hS:=hS.below hb
     have hd:=hS.hand [4] [0,1,2,3,5,6,7,8,9] rfl rfl
     refine m_stp0 [6,7,41] (fS [6,7,41] [vP b10,vP b13,vS y44.2]) H46 rfl rfl rfl (o_store [vI y44.1] H46 hd rfl rfl (by kernel_rfl) rfl rfl rfl) rfl fun _ _ H48 hq => ?_
     obtain ⟨_,hq⟩:=hq
     replace hS : SH M (fpl [eB b28 [vS (gi y18 v24).Long.Name,.slice (g20.s (v24).toNat 0).a (((gi y18 v24).Long.Value).length) (g20.s (v24).toNat 0).c,vS (gi y18 v24).Long.Whole,vB ((gi y18 v24).Important),vU ((gi y18 v24).Origin),vB ((gi y18 v24).Attached),vI ((gi y18 v24).Layer),vI ((gi y18 v24).Weight.e0),vI ((gi y18 v24).Weight.e1),vI ((gi y18 v24).Weight.e2),vI ((gi y18 v24).Order)],Ent.ro b19 [vL g20 y18],eI tyDeclared y18 g20,eB b13 [vN],eB b10 [vI 0],eB b7 [vS name_],eB b4 [vU below],eB b1 [vL g_l_ l_],eI tyDeclared l_ g_l_,gE0]) wR [eB b10 [vI y44.1],eB b28 [vS (gi y18 v24).Long.Name,.slice (g20.s (v24).toNat 0).a (((gi y18 v24).Long.Value).length) (g20.s (v24).toNat 0).c,vS (gi y18 v24).Long.Whole,vB ((gi y18 v24).Important),vU ((gi y18 v24).Origin),vB ((gi y18 v24).Attached),vI ((gi y18 v24).Layer),vI ((gi y18 v24).Weight.e0),vI ((gi y18 v24).Weight.e1),vI ((gi y18 v24).Weight.e2),vI ((gi y18 v24).Order)],Ent.ro b19 [vL g20 y18],eI tyDeclared y18 g20,eB b13 [vN],eB b7 [vS name_],eB b4 [vU below],eB b1 [vL g_l_ l_],eI tyDeclared l_ g_l_,gE0] _:=hS.join [4] [0,1,2,3,5,6,7,8,9] rfl rfl hq
     have hd:=hS.hand [4] [0,1,2,3,5,6,7,8,9] rfl rfl
     refine m_stp0 [6,7] (fS [6,7] [vP b10,vP b13]) H48 rfl rfl rfl (o_store [vS y44.2] H48 hd rfl rfl (by kernel_rfl) rfl rfl rfl) rfl fun _ _ H50 hq => ?_
     obtain ⟨_,hq⟩:=hq
     replace hS : SH M (fpl [eB b28 [vS (gi y18 v24).Long.Name,.slice (g20.s (v24).toNat 0).a (((gi y18 v24).Long.Value).length) (g20.s (v24).toNat 0).c,vS (gi y18 v24).Long.Whole,vB ((gi y18 v24).Important),vU ((gi y18 v24).Origin),vB ((gi y18 v24).Attached),vI ((gi y18 v24).Layer),vI ((gi y18 v24).Weight.e0),vI ((gi y18 v24).Weight.e1),vI ((gi y18 v24).Weight.e2),vI ((gi y18 v24).Order)],Ent.ro b19 [vL g20 y18],eI tyDeclared y18 g20,eB b13 [vN],eB b10 [vI 0],eB b7 [vS name_],eB b4 [vU below],eB b1 [vL g_l_ l_],eI tyDeclared l_ g_l_,gE0]) wR [eB b13 [vS y44.2],eB b10 [vI y44.1],eB b28 [vS (gi y18 v24).Long.Name,.slice (g20.s (v24).toNat 0).a (((gi y18 v24).Long.Value).length) (g20.s (v24).toNat 0).c,vS (gi y18 v24).Long.Whole,vB ((gi y18 v24).Important),vU ((gi y18 v24).Origin),vB ((gi y18 v24).Attached),vI ((gi y18 v24).Layer),vI ((gi y18 v24).Weight.e0),vI ((gi y18 v24).Weight.e1),vI ((gi y18 v24).Weight.e2),vI ((gi y18 v24).Order)],Ent.ro b19 [vL g20 y18],eI tyDeclared y18 g20,eB b7 [vS name_],eB b4 [vU below],eB b1 [vL g_l_ l_],eI tyDeclared l_ g_l_,gE0] _:=hS.join [4] [0,1,2,3,5,6,7,8,9] rfl rfl hq
     apply wl_end rfl
     refine r_ret ?_
     obtain rfl:=someE hm
     have hm:=hm_z36
     exact ⟨(y44.1,y44.2),someE hm,hS.sel [1,0] rfl⟩
    ·rintro _ _ ⟨s_z36,hz,H,hS⟩
     subst hz
     replace hm:=sumR hm_z36
     replace hS : SH M (fpl [eB b28 [vS (gi y18 v24).Long.Name,.slice (g20.s (v24).toNat 0).a (((gi y18 v24).Long.Value).length) (g20.s (v24).toNat 0).c,vS (gi y18 v24).Long.Whole,vB ((gi y18 v24).Important),vU ((gi y18 v24).Origin),vB ((gi y18 v24).Attached),vI ((gi y18 v24).Layer),vI ((gi y18 v24).Weight.e0),vI ((gi y18 v24).Weight.e1),vI ((gi y18 v24).Weight.e2),vI ((gi y18 v24).Order)],Ent.ro b19 [vL g20 y18],eI tyDeclared y18 g20,eB b13 [vN],eB b10 [vI 0],eB b7 [vS name_],eB b4 [vU below],eB b1 [vL g_l_ l_],eI tyDeclared l_ g_l_,gE0]) wR [Ent.ro b19 [vL g20 y18],eI tyDeclared y18 g20,eB b13 [vN],eB b10 [vI 0],eB b7 [vS name_],eB b4 [vU below],eB b1 [vL g_l_ l_],eI tyDeclared l_ g_l_,gE0] _:=hS.sel [1,2,3,4,5,6,7,8,9] rfl
     refine r_seq ?_
     refine rl_start (by kernel_rfl) ?_
     refine wl_batch 0 1 [] [6,7,42] (fS [6,7,42] [vP b10,vP b13,vI v24]) [] H (by decide) (by kernel_rfl) trivial fun _ _ H54 hb => ?_
     replace hS:=hS.below hb
     have hd:=hS.hand [3] [0,1,2,4,5,6,7,8] rfl rfl
     refine m_stp0 [6,7] (fS [6,7] [vP b10,vP b13]) H54 rfl rfl rfl (o_store [vI v24] H54 hd rfl rfl (by kernel_rfl) rfl rfl rfl) rfl fun _ _ H56 hq => ?_
     obtain ⟨_,hq⟩:=hq
     replace hS : SH M (fpl [eB b28 [vS (gi y18 v24).Long.Name,.slice (g20.s (v24).toNat 0).a (((gi y18 v24).Long.Value).length) (g20.s (v24).toNat 0).c,vS (gi y18 v24).Long.Whole,vB ((gi y18 v24).Important),vU ((gi y18 v24).Origin),vB ((gi y18 v24).Attached),vI ((gi y18 v24).Layer),vI ((gi y18 v24).Weight.e0),vI ((gi y18 v24).Weight.e1),vI ((gi y18 v24).Weight.e2),vI ((gi y18 v24).Order)],Ent.ro b19 [vL g20 y18],eI tyDeclared y18 g20,eB b13 [vN],eB b10 [vI 0],eB b7 [vS name_],eB b4 [vU below],eB b1 [vL g_l_ l_],eI tyDeclared l_ g_l_,gE0]) wR [eB b10 [vI v24],Ent.ro b19 [vL g20 y18],eI tyDeclared y18 g20,eB b13 [vN],eB b7 [vS name_],eB b4 [vU below],eB b1 [vL g_l_ l_],eI tyDeclared l_ g_l_,gE0] _:=hS.join [3] [0,1,2,4,5,6,7,8] rfl rfl hq
     have hd:=hS.hand [3] [0,1,2,4,5,6,7,8] rfl rfl
     refine m_stp0 [6,7] (fS [6,7] [vP b10,vP b13]) H56 rfl rfl rfl (o_store [vN] H56 hd rfl rfl (by kernel_rfl) rfl rfl rfl) rfl fun _ _ H58 hq => ?_
     obtain ⟨_,hq⟩:=hq
     replace hS : SH M (fpl [eB b28 [vS (gi y18 v24).Long.Name,.slice (g20.s (v24).toNat 0).a (((gi y18 v24).Long.Value).length) (g20.s (v24).toNat 0).c,vS (gi y18 v24).Long.Whole,vB ((gi y18 v24).Important),vU ((gi y18 v24).Origin),vB ((gi y18 v24).Attached),vI ((gi y18 v24).Layer),vI ((gi y18 v24).Weight.e0),vI ((gi y18 v24).Weight.e1),vI ((gi y18 v24).Weight.e2),vI ((gi y18 v24).Order)],Ent.ro b19 [vL g20 y18],eI tyDeclared y18 g20,eB b13 [vN],eB b10 [vI 0],eB b7 [vS name_],eB b4 [vU below],eB b1 [vL g_l_ l_],eI tyDeclared l_ g_l_,gE0]) wR [eB b13 [vN],eB b10 [vI v24],Ent.ro b19 [vL g20 y18],eI tyDeclared y18 g20,eB b7 [vS name_],eB b4 [vU below],eB b1 [vL g_l_ l_],eI tyDeclared l_ g_l_,gE0] _:=hS.join [3] [0,1,2,4,5,6,7,8] rfl rfl hq
     apply wl_end rfl
     refine r_ret ?_
     exact ⟨(v24,[]),someE hm,hS.sel [1,0] rfl⟩
  case hn_1 =>
   intro _ bD61 aR wR hb_bD61 hC H hS
   obtain ⟨kk,hm⟩:=hC
   replace H : FrG [mk bD61] 45 (fS [3,4,5,6,7,12] [vP b1,vP b4,vP b7,vP b10,vP b13,.func (.func 73) ⟨[]⟩ ⟨[vP b19]⟩]) aR:=H
   replace hS : SH M X w [Ent.obj bD61 dEnd,Ent.ro b19 [vL g20 y18],eI tyDeclared y18 g20,eB b13 [vN],eB b10 [vI 0],eB b7 [vS name_],eB b4 [vU below],eB b1 [vL g_l_ l_],eI tyDeclared l_ g_l_,gE0] wR:=hS
   cases kk with
   | zero => exact noneE hm
   | succ kk =>
    rw [wide_decide_L1] at hm
    replace hm:=bT (decide_eq_true (show ((y18).length : Int) - 1 - ((y18).length : Int) < 0 from by omega)) hm
    apply w_seq
    apply wl_start
    obtain ⟨y62,hy62,hm⟩:=bindE hm
    refine wl_batch 0 2 [(vS name_),(vS y62)] [6,7,44] (fS [6,7,44] [vP b10,vP b13,vS y62]) [rA b7 0 (vS name_),rB 48 [vS name_] (vS y62)] H (by decide) (by kernel_rfl) ⟨((hS.bk 5 rfl).at1 rfl),(wide_unset_ok m _ _ hy62 _ (s0im s0nil (hS.im 9 rfl))),trivial⟩ fun _ _ H64 hb => ?_
    replace hS:=hS.below hb
    have hd:=hS.hand [4] [0,1,2,3,5,6,7,8,9] rfl rfl
    refine m_stp0 [6,7,44] (fS [6,7,44] [vP b10,vP b13,vS y62]) H64 rfl rfl rfl (o_store [vI (-1)] H64 hd rfl rfl (by kernel_rfl) rfl rfl rfl) rfl fun _ _ H66 hq => ?_
    obtain ⟨_,hq⟩:=hq
    replace hS : SH M X w [eB b10 [vI (-1)],Ent.obj bD61 dEnd,Ent.ro b19 [vL g20 y18],eI tyDeclared y18 g20,eB b13 [vN],eB b7 [vS name_],eB b4 [vU below],eB b1 [vL g_l_ l_],eI tyDeclared l_ g_l_,gE0] _:=hS.join [4] [0,1,2,3,5,6,7,8,9] rfl rfl hq
    have hd:=hS.hand [4] [0,1,2,3,5,6,7,8,9] rfl rfl
    refine m_stp0 [6,7] (fS [6,7] [vP b10,vP b13]) H66 rfl rfl rfl (o_store [vS y62] H66 hd rfl rfl (by kernel_rfl) rfl rfl rfl) rfl fun _ _ H68 hq => ?_
    obtain ⟨_,hq⟩:=hq
    replace hS : SH M X w [eB b13 [vS y62],eB b10 [vI (-1)],Ent.obj bD61 dEnd,Ent.ro b19 [vL g20 y18],eI tyDeclared y18 g20,eB b7 [vS name_],eB b4 [vU below],eB b1 [vL g_l_ l_],eI tyDeclared l_ g_l_,gE0] _:=hS.join [4] [0,1,2,3,5,6,7,8,9] rfl rfl hq
    apply wl_end rfl
    replace hS : SH M X w [eB b13 [vS y62],eB b10 [vI (-1)],Ent.obj bD61 dEnd,Ent.ro b19 [vL g20 y18],eI tyDeclared y18 g20,gE0] _:=hS.sel [0,1,2,3,4,9] rfl
    apply w_ret
    obtain rfl:=someE hm
    refine retM H68 hb_bD61 (hS.sel [2,0,1,3,4,5] rfl) ⟨nc_blk _ _,⟨nc_blk _ _,⟨nc_ro _ _,⟨nc_im nc_tyDeclared _ _,⟨nc_im (nc_I _) _ _,trivial⟩⟩⟩⟩⟩ fun _ _ H hS => ?_
    replace hS : SH M X w [eB b13 [vS y62],eB b10 [vI (-1)],Ent.ro b19 [vL g20 y18],eI tyDeclared y18 g20,gE0] _:=hS
    exact retR2 H rfl (oneRes_one rfl (hS.bk 1 rfl) Tryz.underlying3 rfl) (oneRes_one rfl (hS.bk 0 rfl) Tryz.underlying9 rfl) ⟨_,rfl,rfl,(hS.sel [] rfl)⟩
  case hr_1 =>
   intro yR bD61 aR wR hb_bD61 hC H hS
   have hm : some yR = some r:=congrArg some hC
   replace H : FrG [mk bD61] 45 (fS [3,4,5,6,7,12] [vP b1,vP b4,vP b7,vP b10,vP b13,.func (.func 73) ⟨[]⟩ ⟨[vP b19]⟩]) aR:=H
   replace hS : SH M X w [Ent.obj bD61 dEnd,eB b10 [vI yR.1],eB b13 [vS yR.2]] wR:=hS
   obtain rfl:=someE hm
   refine retM H hb_bD61 (hS.sel [0,1,2] rfl) ⟨nc_blk _ _,⟨nc_blk _ _,trivial⟩⟩ fun _ _ H hS => ?_
   replace hS : SH M X w [eB b10 [vI yR.1],eB b13 [vS yR.2]] _:=hS
   exact retR2 H rfl (oneRes_one rfl (hS.bk 0 rfl) Tryz.underlying3 rfl) (oneRes_one rfl (hS.bk 1 rfl) Tryz.underlying9 rfl) ⟨_,rfl,rfl,(hS.sel [] rfl)⟩
theorem wide_decide_ok {g_l_ : Gh} (m : Nat) (l_ : List TDeclared) (below : Int) (name_ : Str) (r : Int × Str) (hm : wide_decide m l_ below name_ = some r) (w : World) (hL : S0 F0 [eI tyDeclared l_ g_l_,gE0] w ∧ fpl [eI tyDeclared l_ g_l_,gE0] = []) : RetB Tryz.prog 26 ⟨[vL g_l_ l_,vU below,vS name_]⟩ (vW [vI r.1,vS r.2]) w:=retB_of hL (Tryz.call26 _) (fun w' h => wide_decide_w m   m g_l_ F0 l_ below name_ r hm w' h)

theorem wide_Decide_w {g_l_ : Gh} (M : Av) (m : Nat) (l_ : List TDeclared) (name_ : Str) (r : Int × Str × Int) (hm : wide_Decide m l_ name_ = some r) (w : World) (hS : S0 M [eI tyDeclared l_ g_l_,gE0] w) : Calls Tryz.prog 9 ⟨[vL g_l_ l_,vS name_]⟩ w (fun e w' => ∃ v,e = .returned v ∧ v = vW [vI r.1,vS r.2.1,vI r.2.2] ∧ SH M (fpl [eI tyDeclared l_ g_l_,gE0]) w [] w'):=by
 rw [wide_Decide] at hm
 have hS0 : SH M (fpl [eI tyDeclared l_ g_l_,gE0]) w [eI tyDeclared l_ g_l_,gE0] w:=hS
 generalize hX : fpl [eI tyDeclared l_ g_l_,gE0] = X at hS0 ⊢
 clear hS hX
 have hS:=hS0
 clear hS0
 refine calls_entryP Tryz.func9 rfl Tryz.ntmps9 rfl fun _ H => ?_
 refine s_reg [] [0,1] (fS [0,1] [vL g_l_ l_,vS name_]) [] H (by kernel_rfl) trivial fun _ _ H2 hb => ?_
 replace hS:=hS.below hb
 apply w_seq
 obtain ⟨y3,hy3,hm⟩:=bindE hm
 refine s_reg [(vI y3)] [0,1,7] (fS [0,1,7] [vL g_l_ l_,vS name_,vI y3]) [rB 25 [vL g_l_ l_] (vI y3)] H2 (by kernel_rfl) ⟨(wide_asked_ok (g_l_:=g_l_) m _ _ hy3 _ (s0im (s0im s0nil (hS.im 1 rfl)) (hS.im 0 rfl))),trivial⟩ fun _ _ H5 hb => ?_
 replace hS:=hS.below hb
 refine s_reg [] [0,1,7,15] (fS [0,1,7,15] [vL g_l_ l_,vS name_,vI y3,vB (y3 != 0)]) [] H5 (by kernel_rfl) trivial fun _ _ H7 hb => ?_
 replace hS:=hS.below hb
 refine w_if H7 rfl (fun hc => ?c23) (fun hc => ?_)
 case c23 =>
  replace hm:=bT hc hm
  refine s_reg [] [4,5,6] (fS [4,5,6] [vI 0,vN,vI y3]) [] H7 (by kernel_rfl) trivial fun _ _ H9 hb => ?_
  replace hS:=hS.below hb
  replace hS : SH M X w [gE0] _:=hS.sel [1] rfl
  apply w_ret
  obtain rfl:=someE hm
  exact retR3 H9 rfl rfl rfl rfl ⟨_,rfl,rfl,(hS.sel [] rfl)⟩
 replace hm:=bF hc hm
 apply w_skip
 apply w_seq
 obtain ⟨y10,hy10,hm⟩:=bindE hm
 refine s_reg [(vW [vB y10.1,vI y10.2])] [0,1,9] (fS [0,1,9] [vL g_l_ l_,vS name_,vI y10.2]) [rB 16 [vS name_] (vW [vB y10.1,vI y10.2])] H7 (by kernel_rfl) ⟨(props_Inherited_ok 64 _ _ hy10 _ (s0im s0nil (hS.im 1 rfl))),trivial⟩ fun _ _ H12 hb => ?_
 replace hS:=hS.below hb
 refine s_reg [] [0,1,23] (fS [0,1,23] [vL g_l_ l_,vS name_,vB (y10.2 != 0)]) [] H12 (by kernel_rfl) trivial fun _ _ H14 hb => ?_
 replace hS:=hS.below hb
 refine w_if H14 rfl (fun hc => ?c22) (fun hc => ?_)
 case c22 =>
  replace hm:=bT hc hm
  refine s_reg [] [4,5,6] (fS [4,5,6] [vI 0,vN,vI 6]) [] H14 (by kernel_rfl) trivial fun _ _ H16 hb => ?_
  replace hS:=hS.below hb
  replace hS : SH M X w [gE0] _:=hS.sel [1] rfl
  apply w_ret
  obtain rfl:=someE hm
  exact retR3 H16 rfl rfl rfl rfl ⟨_,rfl,rfl,(hS.sel [] rfl)⟩
 replace hm:=bF hc hm
 apply w_skip
 obtain ⟨y17,hy17,hm⟩:=bindE hm
 refine s_reg [(vW [vI y17.1,vS y17.2])] [10,11] (fS [10,11] [vI y17.1,vS y17.2]) [rB 26 [vL g_l_ l_,vU 4,vS name_] (vW [vI y17.1,vS y17.2])] H14 (by kernel_rfl) ⟨(wide_decide_ok (g_l_:=g_l_) m _ _ _ _ hy17 _ (s0im (s0im s0nil (hS.im 1 rfl)) (hS.im 0 rfl))),trivial⟩ fun _ _ H19 hb => ?_
 replace hS:=hS.below hb
 replace hS : SH M X w [gE0] _:=hS.sel [1] rfl
 refine s_reg [] [4,5,6] (fS [4,5,6] [vI y17.1,vS y17.2,vI 0]) [] H19 (by kernel_rfl) trivial fun _ _ H21 hb => ?_
 replace hS:=hS.below hb
 apply w_ret
 obtain rfl:=someE hm
 exact retR3 H21 rfl rfl rfl rfl ⟨_,rfl,rfl,(hS.sel [] rfl)⟩
theorem wide_Decide_ok {g_l_ : Gh} (m : Nat) (l_ : List TDeclared) (name_ : Str) (r : Int × Str × Int) (hm : wide_Decide m l_ name_ = some r) (w : World) (hL : S0 F0 [eI tyDeclared l_ g_l_,gE0] w ∧ fpl [eI tyDeclared l_ g_l_,gE0] = []) : RetB Tryz.prog 9 ⟨[vL g_l_ l_,vS name_]⟩ (vW [vI r.1,vS r.2.1,vI r.2.2]) w:=retB_of hL (Tryz.call9 _) (fun w' h => wide_Decide_w F0 m   l_ name_ r hm w' h)

theorem law31_says_w {g_l_ : Gh} (M : Av) (m : Nat) (l_ : List TDeclared) (name_ : Str) (at_ : Int) (word : Str) (r : Bool) (hm : law31_says m l_ name_ at_ word = some r) (w : World) (hS : S0 M [eI tyDeclared l_ g_l_,gE0] w) : Calls Tryz.prog 20 ⟨[vL g_l_ l_,vS name_,vI at_,vS word]⟩ w (fun e w' => ∃ v,e = .returned v ∧ v = vB r ∧ SH M (fpl [eI tyDeclared l_ g_l_,gE0]) w [] w'):=by
 rw [law31_says] at hm
 have hS0 : SH M (fpl [eI tyDeclared l_ g_l_,gE0]) w [eI tyDeclared l_ g_l_,gE0] w:=hS
 generalize hX : fpl [eI tyDeclared l_ g_l_,gE0] = X at hS0 ⊢
 clear hS hX
 have hS:=hS0
 clear hS0
 refine calls_entryP Tryz.func20 rfl Tryz.ntmps20 rfl fun _ H => ?_
 refine s_reg [] [0,1,2,3] (fS [0,1,2,3] [vL g_l_ l_,vS name_,vI at_,vS word]) [] H (by kernel_rfl) trivial fun _ _ H2 hb => ?_
 replace hS:=hS.below hb
 obtain ⟨y3,hy3,hm⟩:=bindE hm
 refine s_reg [(vW [vI y3.1,vS y3.2.1,vI y3.2.2])] [2,3,9,10,11] (fS [2,3,9,10,11] [vI at_,vS word,vI y3.1,vS y3.2.1,vI y3.2.2]) [rB 9 [vL g_l_ l_,vS name_] (vW [vI y3.1,vS y3.2.1,vI y3.2.2])] H2 (by kernel_rfl) ⟨(wide_Decide_ok (g_l_:=g_l_) m _ _ _ hy3 _ (s0im (s0im s0nil (hS.im 1 rfl)) (hS.im 0 rfl))),trivial⟩ fun _ _ H5 hb => ?_
 replace hS:=hS.below hb
 replace hS : SH M X w [gE0] _:=hS.sel [1] rfl
 obtain ⟨x6,hx6,hm⟩:=letE hm
 refine s_reg [] [8] [(8,[],vB x6)] [] H5 (by subst hx6; kernel_rfl) trivial fun _ _ H8 hb => ?_
 replace hS:=hS.below hb
 apply w_ret
 obtain rfl:=someE hm
 exact retR1 H8 rfl rfl ⟨_,rfl,rfl,(hS.sel [] rfl)⟩
theorem law31_says_ok {g_l_ : Gh} (m : Nat) (l_ : List TDeclared) (name_ : Str) (at_ : Int) (word : Str) (r : Bool) (hm : law31_says m l_ name_ at_ word = some r) (w : World) (hL : S0 F0 [eI tyDeclared l_ g_l_,gE0] w ∧ fpl [eI tyDeclared l_ g_l_,gE0] = []) : RetB Tryz.prog 20 ⟨[vL g_l_ l_,vS name_,vI at_,vS word]⟩ (vB r) w:=retB_of hL (Tryz.call20 _) (fun w' h => law31_says_w F0 m   l_ name_ at_ word r hm w' h)

theorem law31_alive_w  (M : Av) (m : Nat)  (r : Bool) (hm : law31_alive m = some r) (w : World) (hS : S0 M [gE0] w) : Calls Tryz.prog 6 ⟨[]⟩ w (fun e w' => ∃ v,e = .returned v ∧ v = vB r ∧ SH M (fpl [gE0]) w [] w'):=by
 rw [law31_alive] at hm
 have hS0 : SH M (fpl [gE0]) w [gE0] w:=hS
 generalize hX : fpl [gE0] = X at hS0 ⊢
 clear hS hX
 have hS:=hS0
 clear hS0
 refine calls_entryP Tryz.func6 rfl Tryz.ntmps6 rfl fun _ H => ?_
 refine s_reg [] [] [] [] H (by kernel_rfl) trivial fun _ _ H2 hb => ?_
 replace hS:=hS.below hb
 apply w_seq
 apply wl_start
 obtain ⟨y3,hy3,hm⟩:=bindE hm
 have hd:=hS.hand [] [0] rfl rfl
 refine m_stp [3] [] H2 rfl rfl rfl rfl (o_callx H2 rfl rfl (law31_of_ok m _ _ _ _ hy3 _ _ hd)) (fun _ => rfl) fun _ _ v H7 hq => ?_
 obtain ⟨g4,rfl,hq⟩:=hq
 replace hS : SH M X w [eI tyValue y3.Long.Value g4,gE0] _:=hS.join [] [0] rfl rfl hq
 obtain ⟨y8,hy8,hm⟩:=bindE hm
 have hd:=hS.hand [] [0,1] rfl rfl
 refine m_stp [4,3] [(3,[],vG [vS y3.Long.Name,vL g4 y3.Long.Value,vS y3.Long.Whole,vB y3.Important,vU y3.Origin,vB y3.Attached,vI y3.Layer,vI y3.Weight.e0,vI y3.Weight.e1,vI y3.Weight.e2,vI y3.Order])] H7 rfl rfl rfl rfl (o_callx H7 rfl rfl (law31_of_ok m _ _ _ _ hy8 _ _ hd)) (fun _ => rfl) fun _ _ v H12 hq => ?_
 obtain ⟨g9,rfl,hq⟩:=hq
 replace hS : SH M X w [eI tyValue y8.Long.Value g9,eI tyValue y3.Long.Value g4,gE0] _:=hS.join [] [0,1] rfl rfl hq
 obtain ⟨y13,hy13,hm⟩:=bindE hm
 have hd:=hS.hand [] [0,1,2] rfl rfl
 refine m_stp [5,3,4] (fS [3,4] [vG [vS y3.Long.Name,vL g4 y3.Long.Value,vS y3.Long.Whole,vB y3.Important,vU y3.Origin,vB y3.Attached,vI y3.Layer,vI y3.Weight.e0,vI y3.Weight.e1,vI y3.Weight.e2,vI y3.Order],vG [vS y8.Long.Name,vL g9 y8.Long.Value,vS y8.Long.Whole,vB y8.Important,vU y8.Origin,vB y8.Attached,vI y8.Layer,vI y8.Weight.e0,vI y8.Weight.e1,vI y8.Weight.e2,vI y8.Order]]) H12 rfl rfl rfl rfl (o_callx H12 rfl rfl (law31_of_ok m _ _ _ _ hy13 _ _ hd)) (fun _ => rfl) fun _ _ v H17 hq => ?_
 obtain ⟨g14,rfl,hq⟩:=hq
 replace hS : SH M X w [eI tyValue y13.Long.Value g14,eI tyValue y8.Long.Value g9,eI tyValue y3.Long.Value g4,gE0] _:=hS.join [] [0,1,2] rfl rfl hq
 have hd:=hS.hand [2,1,0] [0,1,2,3] rfl rfl
 refine m_stp [6] [] H17 rfl rfl rfl rfl (o_lit (T:=tyDeclared) (E:=35) (zv:=vG [vN,vO,vN,vF,vU 0,vF,vI 0,vI 0,vI 0,vI 0,vI 0]) [vS y3.Long.Name,vL g4 y3.Long.Value,vS y3.Long.Whole,vB y3.Important,vU y3.Origin,vB y3.Attached,vI y3.Layer,vI y3.Weight.e0,vI y3.Weight.e1,vI y3.Weight.e2,vI y3.Order,vS y8.Long.Name,vL g9 y8.Long.Value,vS y8.Long.Whole,vB y8.Important,vU y8.Origin,vB y8.Attached,vI y8.Layer,vI y8.Weight.e0,vI y8.Weight.e1,vI y8.Weight.e2,vI y8.Order,vS y13.Long.Name,vL g14 y13.Long.Value,vS y13.Long.Whole,vB y13.Important,vU y13.Origin,vB y13.Attached,vI y13.Layer,vI y13.Weight.e0,vI y13.Weight.e1,vI y13.Weight.e2,vI y13.Order] ([y3,y8,y13] : List TDeclared) [gL [g4],gL [g9],gL [g14]] _ H17 hd rfl (by kernel_rfl) (by kernel_rfl) (by kernel_rfl) (by kernel_rfl) (by kernel_rfl) (by kernel_rfl) (by kernel_rfl) rfl (InnL.cons (tyDeclared_mk (hd.im 0 rfl)) (InnL.cons (tyDeclared_mk (hd.im 1 rfl)) (InnL.cons (tyDeclared_mk (hd.im 2 rfl)) InnL.nil)))) (fun _ => rfl) fun _ _ v H21 hq => ?_
 obtain ⟨g18,rfl,hq⟩:=hq
 replace hS : SH M X w [eO 35 tyDeclared ([y3,y8,y13] : List TDeclared) g18,eI tyValue y13.Long.Value g14,eI tyValue y8.Long.Value g9,eI tyValue y3.Long.Value g4,gE0] _:=hS.join [2,1,0] [0,1,2,3] rfl rfl hq
 refine wl_batch 4 5 [] [1] [(1,[],vK g18 3)] [] H21 (by decide) (by kernel_rfl) trivial fun _ _ H23 hb => ?_
 replace hS:=hS.below hb
 apply wl_end rfl
 replace hS : SH M X w [eO 35 tyDeclared ([y3,y8,y13] : List TDeclared) g18,gE0] _:=hS.sel [0,4] rfl
 apply w_seq
 apply wl_start
 obtain ⟨y24,hy24,hm⟩:=bindE hm
 have hd:=hS.hand [] [0,1] rfl rfl
 refine m_stp [7,1] [(1,[],vK g18 3)] H23 rfl rfl rfl rfl (o_callx H23 rfl rfl (law31_of_ok m _ _ _ _ hy24 _ _ hd)) (fun _ => rfl) fun _ _ v H28 hq => ?_
 obtain ⟨g25,rfl,hq⟩:=hq
 replace hS : SH M X w [eI tyValue y24.Long.Value g25,eO 35 tyDeclared ([y3,y8,y13] : List TDeclared) g18,gE0] _:=hS.join [] [0,1] rfl rfl hq
 obtain ⟨y29,hy29,hm⟩:=bindE hm
 have hd:=hS.hand [] [0,1,2] rfl rfl
 refine m_stp [8,1,7] (fS [1,7] [vK g18 3,vG [vS y24.Long.Name,vL g25 y24.Long.Value,vS y24.Long.Whole,vB y24.Important,vU y24.Origin,vB y24.Attached,vI y24.Layer,vI y24.Weight.e0,vI y24.Weight.e1,vI y24.Weight.e2,vI y24.Order]]) H28 rfl rfl rfl rfl (o_callx H28 rfl rfl (law31_of_ok m _ _ _ _ hy29 _ _ hd)) (fun _ => rfl) fun _ _ v H33 hq => ?_
 obtain ⟨g30,rfl,hq⟩:=hq
 replace hS : SH M X w [eI tyValue y29.Long.Value g30,eI tyValue y24.Long.Value g25,eO 35 tyDeclared ([y3,y8,y13] : List TDeclared) g18,gE0] _:=hS.join [] [0,1,2] rfl rfl hq
 obtain ⟨y34,hy34,hm⟩:=bindE hm
 have hd:=hS.hand [] [0,1,2,3] rfl rfl
 refine m_stp [9,1,7,8] (fS [1,7,8] [vK g18 3,vG [vS y24.Long.Name,vL g25 y24.Long.Value,vS y24.Long.Whole,vB y24.Important,vU y24.Origin,vB y24.Attached,vI y24.Layer,vI y24.Weight.e0,vI y24.Weight.e1,vI y24.Weight.e2,vI y24.Order],vG [vS y29.Long.Name,vL g30 y29.Long.Value,vS y29.Long.Whole,vB y29.Important,vU y29.Origin,vB y29.Attached,vI y29.Layer,vI y29.Weight.e0,vI y29.Weight.e1,vI y29.Weight.e2,vI y29.Order]]) H33 rfl rfl rfl rfl (o_callx H33 rfl rfl (law31_of_ok m _ _ _ _ hy34 _ _ hd)) (fun _ => rfl) fun _ _ v H38 hq => ?_
 obtain ⟨g35,rfl,hq⟩:=hq
 replace hS : SH M X w [eI tyValue y34.Long.Value g35,eI tyValue y29.Long.Value g30,eI tyValue y24.Long.Value g25,eO 35 tyDeclared ([y3,y8,y13] : List TDeclared) g18,gE0] _:=hS.join [] [0,1,2,3] rfl rfl hq
 have hd:=hS.hand [2,1,0] [0,1,2,3,4] rfl rfl
 refine m_stp [10,1] [(1,[],vK g18 3)] H38 rfl rfl rfl rfl (o_lit (T:=tyDeclared) (E:=35) (zv:=vG [vN,vO,vN,vF,vU 0,vF,vI 0,vI 0,vI 0,vI 0,vI 0]) [vS y24.Long.Name,vL g25 y24.Long.Value,vS y24.Long.Whole,vB y24.Important,vU y24.Origin,vB y24.Attached,vI y24.Layer,vI y24.Weight.e0,vI y24.Weight.e1,vI y24.Weight.e2,vI y24.Order,vS y29.Long.Name,vL g30 y29.Long.Value,vS y29.Long.Whole,vB y29.Important,vU y29.Origin,vB y29.Attached,vI y29.Layer,vI y29.Weight.e0,vI y29.Weight.e1,vI y29.Weight.e2,vI y29.Order,vS y34.Long.Name,vL g35 y34.Long.Value,vS y34.Long.Whole,vB y34.Important,vU y34.Origin,vB y34.Attached,vI y34.Layer,vI y34.Weight.e0,vI y34.Weight.e1,vI y34.Weight.e2,vI y34.Order] ([y24,y29,y34] : List TDeclared) [gL [g25],gL [g30],gL [g35]] _ H38 hd rfl (by kernel_rfl) (by kernel_rfl) (by kernel_rfl) (by kernel_rfl) (by kernel_rfl) (by kernel_rfl) (by kernel_rfl) rfl (InnL.cons (tyDeclared_mk (hd.im 0 rfl)) (InnL.cons (tyDeclared_mk (hd.im 1 rfl)) (InnL.cons (tyDeclared_mk (hd.im 2 rfl)) InnL.nil)))) (fun _ => rfl) fun _ _ v H42 hq => ?_
 obtain ⟨g39,rfl,hq⟩:=hq
 replace hS : SH M X w [eO 35 tyDeclared ([y24,y29,y34] : List TDeclared) g39,eI tyValue y34.Long.Value g35,eI tyValue y29.Long.Value g30,eI tyValue y24.Long.Value g25,eO 35 tyDeclared ([y3,y8,y13] : List TDeclared) g18,gE0] _:=hS.join [2,1,0] [0,1,2,3,4] rfl rfl hq
 refine wl_batch 4 5 [] [1,2] (fS [1,2] [vK g18 3,vK g39 3]) [] H42 (by decide) (by kernel_rfl) trivial fun _ _ H44 hb => ?_
 replace hS:=hS.below hb
 apply wl_end rfl
 replace hS : SH M X w [eO 35 tyDeclared ([y24,y29,y34] : List TDeclared) g39,eO 35 tyDeclared ([y3,y8,y13] : List TDeclared) g18,gE0] _:=hS.sel [0,4,5] rfl
 obtain ⟨y45,hy45,hm⟩:=bindE hm
 obtain ⟨y46,hy46,hm⟩:=bindE hm
 obtain ⟨y47,hy47,hm⟩:=bindE hm
 refine s_reg [(vB y45),(vB y46),(vB y47)] [0] [(0,[],vB (cond (cond y45 y46 false) y47 false))] [rB 20 [vK g18 3,vS [99,111,108,111,114],vI 0,vN] (vB y45),fun wz => (y45 = true ∧ True → RetB Tryz.prog 20 ⟨[vK g39 3,vS [99,111,108,111,114],vI (-1),vS [105,110,104,101,114,105,116]]⟩ (vB y46) wz),fun wz => ((cond y45 y46 false) = true ∧ True → RetB Tryz.prog 20 ⟨[vK g18 3,vS [119,105,100,116,104],vI (-1),vS [105,110,105,116,105,97,108]]⟩ (vB y47) wz)] H44 (by kernel_rfl) ⟨(law31_says_ok (g_l_:=g18) m _ _ _ _ _ hy45 _ (s0im (s0im s0nil (hS.im 2 rfl)) (hS.osl 1 rfl))),fun hg => law31_says_ok (g_l_:=g39) m _ _ _ _ _ (bT (hg.1) hy46) _ (s0im (s0im s0nil (hS.im 2 rfl)) (hS.osl 0 rfl)),fun hg => law31_says_ok (g_l_:=g18) m _ _ _ _ _ (bT (hg.1) hy47) _ (s0im (s0im s0nil (hS.im 2 rfl)) (hS.osl 1 rfl)),trivial⟩ fun _ _ H49 hb => ?_
 replace hS:=hS.below hb
 replace hS : SH M X w [gE0] _:=hS.sel [2] rfl
 apply w_ret
 obtain rfl:=someE hm
 exact retR1 H49 rfl rfl ⟨_,rfl,rfl,(hS.sel [] rfl)⟩
theorem law31_alive_ok  (m : Nat)  (r : Bool) (hm : law31_alive m = some r) (w : World) (hL : S0 F0 [gE0] w ∧ fpl [gE0] = []) : RetB Tryz.prog 6 ⟨[]⟩ (vB r) w:=retB_of hL (Tryz.call6 _) (fun w' h => law31_alive_w F0 m    r hm w' h)

end Go.Proofs.YtehlikdeobajcaaGreatDoor
